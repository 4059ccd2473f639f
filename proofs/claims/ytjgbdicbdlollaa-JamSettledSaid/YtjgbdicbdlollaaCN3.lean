/- Texts behind the row of JamSettled, part 3: contracts of the functions it reaches, words that their walks use, and lemmas in plain Lean. -/
import Derived.Below
import Derived.Deep.Draws
import Derived.Deep.AppendLies
import Derived.Maps.AppendAt
import Derived.OwnWalk
import Derived.Laws.BytesArg
import Derived.Laws.MakeOwn
import Derived.Laws.OwnMore
import Derived.Deep.OwnRows
import Derived.Tactics
import Derived.Lib.ConvBytes
import Derived.Laws.Slices
import Derived.WalkKit
import Derived.KernelRfl
import Derived.RowKit3
import Derived.Deep.LoopGhost
import Derived.Deep.QuietTactic
import Derived.BigQuiet
import Derived.WideLaws
import Derived.Deep.DeepCutAuto
import Derived.Deep.CutBlock
import Derived.Deep.RegionHeld3
import Derived.Laws.Rows
import Derived.Lib.AppendStr
import Derived.ArgAppend
import Derived.Laws.IdiomCopy
import Derived.RowKit
import Derived.OrdersHeld
import Derived.Laws.BitsLemmas
import Derived.Laws.StructEq
import Derived.Test.YtjgbdicbdlollaaProg
import Derived.WalkSpells
import Derived.MapKept
import Derived.Maps.RangeWalk
import Derived.Test.YtjgbdicbdlollaaCN1
import Derived.Test.YtjgbdicbdlollaaCN2
namespace Go.Proofs.Ytjgbdicbdlollaa.B
open Go.RowKit Go.Proofs.YtjgbdicbdlollaaW.PrintWords Go.Proofs.YtjgbdicbdlollaaW.PrintLast Go.Proofs.YtjgbdicbdlollaaW.PrintMore
set_option linter.unusedVariables false
set_option linter.unusedSimpArgs false
/-- A row of tolls that read takes, of n drivers. -/
def tollOk (n : Nat) (t : List Int) : Bool := decide (t.length = n) && decide (0 ≤ minU t (t.length - 1)) && decide (maxU t (t.length - 1) ≤ 1000)
/-- A driver's routes that read takes, over m streets. -/
def routeOk (m : Nat) (l : List Int) : Bool := decide (1 ≤ l.length) && decide (l.length ≤ 5) && decide (1 ≤ minU l (l.length - 1)) && decide (maxU l (l.length - 1) < shl .i64 1 (m : Int))
def readOk (R T : List (List Int)) : Bool := decide (1 ≤ R.length) && decide (R.length ≤ 5) && decide (1 ≤ T.length) && decide (T.length ≤ 8) && T.all (tollOk R.length) && R.all (routeOk T.length)
theorem all_rd (q : List Int → Bool) (l : List (List Int)) (h : ∀ j : Nat, j < l.length → q (rd_L12 l (j : Int)) = true) : l.all q = true := by
  rw [List.all_eq_true]
  intro x hx
  obtain ⟨j, hj, rfl⟩ := List.getElem_of_mem hx
  have := h j hj
  simpa [rd_L12, List.getD, List.getElem?_eq_getElem hj] using this
theorem not_all_rd (q : List Int → Bool) (l : List (List Int)) (j : Nat) (hj : j < l.length) (h : q (rd_L12 l (j : Int)) = false) : l.all q = false := by
  rw [List.all_eq_false]
  refine ⟨l[j], List.getElem_mem hj, ?_⟩
  simpa [rd_L12, List.getD, List.getElem?_eq_getElem hj] using h
theorem rd_mem (T : List (List Int)) (x : List Int) (hx : x ∈ T) : ∃ j : Nat, j < T.length ∧ rd_L12 T (j : Int) = x := by
  obtain ⟨j, hj, rfl⟩ := List.getElem_of_mem hx
  exact ⟨j, hj, by simp [rd_L12, List.getD, List.getElem?_eq_getElem hj]⟩
/-- What a walk of read knows of its world. -/
structure REnv (w W : World) (gb g q : Nat) (Ar : Option Addr) (cr : Nat) (At : Option Addr) (ct : Nat) (R T : List (List Int)) (j : Nat) (vp : Value) (vals : List (List Value)) : Prop where
  hB : Below w.heap.size w W
  bB : W.heap[gb]? = some (.cells #[.slice Ar R.length cr, .slice At T.length ct] 41 (0, 0))
  gB : W.heap[g]? = some (.cells #[.slice Ar R.length cr, vp, .nilFunc] 97 (0, 0))
  qB : W.heap[q]? = some (.cells #[.pointer (some ⟨g, 0, none⟩)] 82 (0, 0))
  hL : Kd.R (Kd.raw 1) 105 W w.heap.size (fun _ => True) vp vals
  len : vals.length = j
  hV : ∀ i : Nat, i < j → ∃ A c, vals[i]? = some [.iface 118 (.slice A (rd_L12 T (i : Int)).length c)] ∧ (rd_L12 T (i : Int)).length ≤ c ∧ (Kd.int .i64).C w A (rd_L12 T (i : Int)).length (rd_L12 T (i : Int))
  ok : ∀ i : Nat, i < j → tollOk R.length (rd_L12 T (i : Int)) = true
  gg : w.heap.size ≤ g
  nb : gb ≠ g
  nq : q ≠ g
theorem REnv.below {w W W2 : World} {gb g q cr ct j : Nat} {Ar At : Option Addr} {R T : List (List Int)} {vp : Value} {vals : List (List Value)} (h : REnv w W gb g q Ar cr At ct R T j vp vals) (hb : Below W.heap.size W W2) : REnv w W2 gb g q Ar cr At ct R T j vp vals :=
  ⟨below_step h.hB hb, blk_below h.bB hb, blk_below h.gB hb, blk_below h.qB hb, Kd.R_below h.hL hb, h.len, h.hV, h.ok, h.gg, h.nb, h.nq⟩
/-- A place more. -/
theorem REnv.more {w W W2 : World} {gb g q cr ct j : Nat} {Ar At A : Option Addr} {R T : List (List Int)} {vp v2 : Value} {vals : List (List Value)} {c : Nat} (h : REnv w W gb g q Ar cr At ct R T j vp vals) (hb : Below w.heap.size w W2) (hg : W.grownBy W2 vp.ownBlock)
    (hL : Kd.R (Kd.raw 1) 105 W2 w.heap.size (fun _ => True) v2 (vals ++ [[.iface 118 (.slice A (rd_L12 T (j : Int)).length c)]])) (hc : (rd_L12 T (j : Int)).length ≤ c) (hC : (Kd.int .i64).C w A (rd_L12 T (j : Int)).length (rd_L12 T (j : Int))) (ho : tollOk R.length (rd_L12 T (j : Int)) = true) :
    W2.heap[g]? = some (.cells #[.slice Ar R.length cr, vp, .nilFunc] 97 (0, 0)) ∧ REnv w (W2.setCell ⟨g, 1, none⟩ v2) gb g q Ar cr At ct R T (j + 1) v2 (vals ++ [[.iface 118 (.slice A (rd_L12 T (j : Int)).length c)]]) := by
  have hgB := blk_grown h.gB hg (Kd.R_ne h.hL h.gB (by decide))
  refine ⟨hgB, below_set hb h.gg, ?_, ?_, ?_, ?_, by rw [List.length_append, h.len]; rfl, ?_, ?_, h.gg, h.nb, h.nq⟩
  · exact blk_far (blk_grown h.bB hg (Kd.R_ne h.hL h.bB (by decide))) h.nb _
  · exact blk_put (cs := #[.slice Ar R.length cr, vp, .nilFunc]) hgB 1 v2 rfl
  · exact blk_far (blk_grown h.qB hg (Kd.R_ne h.hL h.qB (by decide))) h.nq _
  · exact Kd.R_mono (Kd.R_far (p := ⟨g, 1, none⟩) (Kd.R_types hL hgB (by decide)) (fun _ hk => hk.2) v2) (fun _ _ => trivial)
  · intro i hi
    rcases Nat.lt_or_ge i j with hij | hij
    · obtain ⟨A', c', e1, e2, e3⟩ := h.hV i hij
      exact ⟨A', c', by rw [List.getElem?_append_left (by rw [h.len]; exact hij)]; exact e1, e2, e3⟩
    · have : i = j := by omega
      subst this
      exact ⟨A, c, by rw [List.getElem?_append_right (by rw [h.len]; exact Nat.le_refl _), h.len, Nat.sub_self]; rfl, hc, hC⟩
  · intro i hi
    rcases Nat.lt_or_ge i j with hij | hij
    · exact h.ok i hij
    · have : i = j := by omega
      subst this
      exact ho
/-- The closure is laid in: the game stands. -/
theorem REnv.game {w W : World} {gb g q cr ct : Nat} {Ar At : Option Addr} {R T : List (List Int)} {vp : Value} {vals : List (List Value)} (h : REnv w W gb g q Ar cr At ct R T T.length vp vals) (hrR : Kd.C (Kd.slice 3 (Kd.int .i64)) w Ar R.length R) (hcR : R.length ≤ cr) (hn : R.length ≤ 5) :
    Gm (W.setCell ⟨g, 2, none⟩ (.func (.func 90) #[] #[.pointer (some ⟨q, 0, none⟩)])) g R T ∧ Below w.heap.size w (W.setCell ⟨g, 2, none⟩ (.func (.func 90) #[] #[.pointer (some ⟨q, 0, none⟩)])) := by
  obtain ⟨Ap, cp, e, hcp, hC⟩ := Kd.R_reads h.hL
  rw [h.len] at e hcp hC
  subst e
  have hB2 := (show Below w.heap.size w (W.setCell ⟨g, 2, none⟩ (.func (.func 90) #[] #[.pointer (some ⟨q, 0, none⟩)])) from below_set h.hB h.gg)
  have hC2 : Kd.C (Kd.raw 1) (W.setCell ⟨g, 2, none⟩ (.func (.func 90) #[] #[.pointer (some ⟨q, 0, none⟩)])) Ap T.length vals := by
    have h2 := Kd.R_far (p := ⟨g, 2, none⟩) (Kd.R_types h.hL h.gB (by decide)) (fun _ hk => hk.2) (.func (.func 90) #[] #[.pointer (some ⟨q, 0, none⟩)])
    obtain ⟨A', c', e', _, hC'⟩ := Kd.R_reads h2
    injection e' with e1 e2 e3
    rw [e1]
    rwa [h.len] at hC'
  refine ⟨⟨Ar, cr, Ap, cp, q, blk_put (cs := #[.slice Ar R.length cr, .slice Ap T.length cp, .nilFunc]) h.gB 2 _ rfl, hcR, Kd.C_below hrR hB2, hcp, ?_, ?_, blk_far h.qB h.nq _⟩, hB2⟩
  · refine ⟨rfl, hC2.2.1, fun hpos => ?_⟩
    obtain ⟨ad, ea, hc⟩ := hC2.2.2 hpos
    refine ⟨ad, ea, fun j x hj => ?_⟩
    have hjl : j < T.length := (List.getElem?_eq_some_iff.1 hj).1
    obtain ⟨A, c, e1, e2, e3⟩ := h.hV j hjl
    obtain ⟨cs, hs, hr, hcell⟩ := hc j _ e1
    obtain ⟨rfl, _⟩ := hr
    have hx : rd_L12 T (j : Int) = x := by simp [rd_L12, List.getD, hj]
    rw [hx] at e2 e3 hcell hs
    exact ⟨_, hs, ⟨A, c, rfl, e2, Kd.C_below e3 hB2⟩, hcell⟩
  · intro x hx
    obtain ⟨j, hj, rfl⟩ := rd_mem T x hx
    have := h.ok j hj
    unfold tollOk at this
    simp only [Bool.and_eq_true, decide_eq_true_eq] at this
    omega
theorem run_store_func {P : Program} {w : World} {a : Addr} {m : Mode} (f : Fn) (x y : Array Value) : (store a (.func f x y) m).run P w = stored P w a (.func f x y) m := run_store P w a _ m rfl
attribute [local go_sem] run_store_func
theorem info105 : (Try.prog.info? 105).map (fun i => (i.zero, i.size, i.bytes)) = some (some .nilIface, 1, 16) := by kernel_rfl
def read.T10 : Bool × List (List Nat × List Nat) := (true, [([], []), ([], []), ([1], [1]), ([2], [2]), ([3], [3]), ([], []), ([5], [5]), ([6], [6]), ([4, 7], [4, 7]), ([0, 0, 1, 2, 3, 4, 5, 6, 7, 8], [0]), ([9, 0, 1, 2, 3, 4, 5, 6, 7, 8], [9]), ([10, 8, 8, 0, 1, 2, 3, 4, 5, 6, 7, 8], [8, 10])])
def read.B10 : List Nat := [0, 0, 2, 6, 14, 0, 32, 96, 254, 1, 513, 2047]
theorem read.tab10 : rtab .any (opsOf Try.f58 10) = read.T10 := by kernel_rfl
theorem read.bits10 : waitsOk read.T10.2 read.B10 = true := by kernel_rfl
def read.T15 : Bool × List (List Nat × List Nat) := (true, [([], []), ([0], [0]), ([1], [1]), ([2], [2]), ([3], [3]), ([4, 3], [3, 4]), ([5, 3], [3, 5]), ([3, 6], [3, 6]), ([7, 3], [7]), ([8], [8]), ([9, 8, 8], [8, 9]), ([10, 8], [8, 10]), ([8, 11], [8, 11]), ([12, 10], [12]), ([13], [13]), ([14, 13, 13], [13, 14]), ([13], [13]), ([16, 13], [13, 16]), ([17, 13], [13, 17]), ([18, 13], [13, 18]), ([15, 19, 13], [13, 15, 19]), ([13, 20], [13, 20])])
def read.B15 : List Nat := [0, 1, 3, 7, 15, 31, 63, 127, 255, 511, 1023, 2047, 4095, 8191, 16383, 32767, 16383, 81919, 212991, 475135, 1048575, 2097151]
theorem read.tab15 : rtab .any (opsOf Try.f58 15) = read.T15 := by kernel_rfl
theorem read.bits15 : waitsOk read.T15.2 read.B15 = true := by kernel_rfl
set_option maxHeartbeats 8000000 in
set_option maxRecDepth 100000 in
theorem read_calls (Ar : Option Addr) (cr : Nat) (R : List (List Int)) (At : Option Addr) (ct : Nat) (T : List (List Int)) (w : World) (hrR : Kd.C (Kd.slice 3 (Kd.int .i64)) w Ar R.length R) (hcR : R.length ≤ cr) (hrT : Kd.C (Kd.slice 3 (Kd.int .i64)) w At T.length T) (hcT : T.length ≤ ct) :
  Calls Try.prog 58 #[.agg #[.slice Ar R.length cr, .slice At T.length ct]] w fun e w' => (readOk R T = true ∧ ∃ g, e = .returned (.tuple #[.pointer (some ⟨g, 0, none⟩), .bool true]) ∧ w.heap.size ≤ g ∧ Gm w' g R T ∧ Below w.heap.size w w') ∨
   (readOk R T = false ∧ e = .returned (.tuple #[.pointer none, .bool false]) ∧ Below w.heap.size w w') := by
 have hu41 := Try.underlying41
 have hu97 := Try.underlying97
 have HRR := Az0.mk hrR
 have HCR := Az0.mk hcR
 have HRT := Az0.mk hrT
 have HCT := Az0.mk hcT
 clear hrR hcR hrT hcT
 have HB := Az0.mk (Below.refl w.heap.size w)
 have hmf : ∀ (fn : Fn) (first cap : Array Value) (w : World), (Instr.makeFunc fn first cap).run Try.prog w = .ok (.func fn first cap) w := fun _ _ _ _ => rfl
 go_enter Try.func58, Try.ntmps58
 go_upto_region 2 with (first | ((with_reducible refine gate_dst (N := 1) rfl ?_); refine box_event ?hg (N := 1) ?hd (cs := #[.slice Ar R.length cr, .slice At T.length ct]) (t := 41) ?hr ?_; (case hd => rfl); (case hg => rfl); (case hr => first | (go_simp; done) | (go_simp; rfl)); intro gb hg w1 hbox hb; have BB := Az0.mk hbox; have GB := Az0.mk (show w.heap.size ≤ gb by rw [hg]; exact Nat.le_refl _); clear HB; have HB := Az0.mk hb; clear hg hbox hb; have hb_0 : w1.cell? ⟨gb, 0, none⟩ = some (.slice Ar R.length cr) := (bkC BB.out 0).trans rfl; have hb_1 : w1.cell? ⟨gb, 1, none⟩ = some (.slice At T.length ct) := (bkC BB.out 1).trans rfl))
 by_cases c1 : R.length < 1
 case pos =>
  have c1b : decide ((R.length : Int) < 1) = true := decide_eq_true (by omega)
  have c1b2 : decide (R.length < 1) = true := decide_eq_true (by omega)
  have c1x0 : decide (R.length = 0) = true := decide_eq_true (by omega)
  have hR : readOk R T = false := by unfold readOk; simp only [Bool.and_eq_false_iff, decide_eq_false_iff_not]; exact .inl (.inl (.inl (.inl (.inl (by omega)))))
  have HRX := Az0.mk hR
  clear hR
  clear c1
  go_wp2
  go_ret2
  exact .inr ⟨HRX.out, by first | rfl | (simp; done), by repeat (first | (with_reducible first | exact HB.out | apply baA_ | apply pbN_ | apply bD1_) | exact HB.out)⟩
 have c1b : decide ((R.length : Int) < 1) = false := decide_eq_false (by omega)
 have c1b2 : decide (R.length < 1) = false := decide_eq_false (by omega)
 have c1x0 : decide (R.length = 0) = false := decide_eq_false (by omega)
 by_cases c2 : 5 < R.length
 case pos =>
  have c2b : decide (5 < (R.length : Int)) = true := decide_eq_true (by omega)
  have c2b2 : decide (5 < R.length) = true := decide_eq_true (by omega)
  have hR : readOk R T = false := by unfold readOk; simp only [Bool.and_eq_false_iff, decide_eq_false_iff_not]; exact .inl (.inl (.inl (.inl (.inr (by omega)))))
  have HRX := Az0.mk hR
  clear hR
  clear c2
  go_wp2
  go_ret2
  exact .inr ⟨HRX.out, by first | rfl | (simp; done), by repeat (first | (with_reducible first | exact HB.out | apply baA_ | apply pbN_ | apply bD1_) | exact HB.out)⟩
 have c2b : decide (5 < (R.length : Int)) = false := decide_eq_false (by omega)
 have c2b2 : decide (5 < R.length) = false := decide_eq_false (by omega)
 by_cases c3 : T.length < 1
 case pos =>
  have c3b : decide ((T.length : Int) < 1) = true := decide_eq_true (by omega)
  have c3b2 : decide (T.length < 1) = true := decide_eq_true (by omega)
  have c3x0 : decide (T.length = 0) = true := decide_eq_true (by omega)
  have hR : readOk R T = false := by unfold readOk; simp only [Bool.and_eq_false_iff, decide_eq_false_iff_not]; exact .inl (.inl (.inl (.inr (by omega))))
  have HRX := Az0.mk hR
  clear hR
  clear c3
  go_wp2
  go_ret2
  exact .inr ⟨HRX.out, by first | rfl | (simp; done), by repeat (first | (with_reducible first | exact HB.out | apply baA_ | apply pbN_ | apply bD1_) | exact HB.out)⟩
 have c3b : decide ((T.length : Int) < 1) = false := decide_eq_false (by omega)
 have c3b2 : decide (T.length < 1) = false := decide_eq_false (by omega)
 have c3x0 : decide (T.length = 0) = false := decide_eq_false (by omega)
 by_cases c4 : 8 < T.length
 case pos =>
  have c4b : decide (8 < (T.length : Int)) = true := decide_eq_true (by omega)
  have c4b2 : decide (8 < T.length) = true := decide_eq_true (by omega)
  have hR : readOk R T = false := by unfold readOk; simp only [Bool.and_eq_false_iff, decide_eq_false_iff_not]; exact .inl (.inl (.inr (by omega)))
  have HRX := Az0.mk hR
  clear hR
  clear c4
  go_wp2
  go_ret2
  exact .inr ⟨HRX.out, by first | rfl | (simp; done), by repeat (first | (with_reducible first | exact HB.out | apply baA_ | apply pbN_ | apply bD1_) | exact HB.out)⟩
 have c4b : decide (8 < (T.length : Int)) = false := decide_eq_false (by omega)
 have c4b2 : decide (8 < T.length) = false := decide_eq_false (by omega)
 have HN := Az0.mk (show 1 ≤ R.length ∧ R.length ≤ 5 ∧ 1 ≤ T.length ∧ T.length ≤ 8 by omega)
 have hR : readOk R T = (T.all (tollOk R.length) && R.all (routeOk T.length)) := by unfold readOk; rw [decide_eq_true (show 1 ≤ R.length by omega), decide_eq_true (show R.length ≤ 5 by omega), decide_eq_true (show 1 ≤ T.length by omega), decide_eq_true (show T.length ≤ 8 by omega)]; simp only [Bool.true_and]
 have HRB := Az0.mk hR
 clear hR c1 c2 c3 c4
 go_upto_region 5 with (first | ((with_reducible refine gate_dst (N := 34) rfl ?_); refine box_event ?hg (N := 34) ?hd (cs := #[.slice Ar R.length cr, .slice none 0 0, .nilFunc]) (t := 97) ?hr ?_; (case hd => rfl); (case hg => rfl); (case hr => first | (go_simp; done) | (go_simp; rfl)); intro g hg w2 hbox hb; have n0_ := Az0.mk (blk_below (by (with_reducible repeat (first | refine blk_drewN ?_ _ | refine blk_drew ?_ | refine blk_alloc ?_ _)); exact BB.out) hb); have n1_ := Az0.mk (below_step (by repeat (first | (with_reducible first | exact HB.out | apply baA_ | apply pbN_ | apply bD1_) | exact HB.out)) hb); have GBX := Az0.mk hbox; have GG := Az0.mk ((by rw [hg]; exact (below_size (by repeat (first | (with_reducible first | exact HB.out | apply baA_ | apply pbN_ | apply bD1_) | exact HB.out)))) : w.heap.size ≤ g); have NBG := Az0.mk ((by have := blk_lt BB.out; rw [hg]; exact Nat.ne_of_lt this) : gb ≠ g); clear HB BB hb_0 hb_1; have BB := n0_; have HB := n1_; clear n0_ n1_; clear hg hbox hb))
 obtain ⟨q, hq⟩ : ∃ q, w2.heap.size = q := ⟨_, rfl⟩
 rw [hq]
 obtain ⟨wq, hwq⟩ : ∃ wq, w2.alloc (.cells #[.pointer (some ⟨g, 0, none⟩)] 82) = wq := ⟨_, rfl⟩
 rw [hwq]
 have n0_ : Below w2.heap.size w2 wq := hwq ▸ baA_ (Below.refl _ _) _
 have FE := Az0.mk (show REnv w wq gb g q Ar cr At ct R T 0 (.slice none 0 0) [] from ⟨below_step HB.out n0_, blk_below BB.out n0_, blk_below GBX.out n0_, hq ▸ hwq ▸ heap_alloc_new w2 _, Kd.R_nil _ _ _ _ _, rfl, fun i hi => absurd hi (Nat.not_lt_zero _), fun i hi => absurd hi (Nat.not_lt_zero _), GG.out, NBG.out, by have := blk_lt GBX.out; omega⟩)
 clear n0_ hwq hq HB BB GBX GG NBG
 have hb_0 : wq.cell? ⟨gb, 0, none⟩ = some (.slice Ar R.length cr) := (bkC FE.out.bB 0).trans rfl
 have hb_1 : wq.cell? ⟨gb, 1, none⟩ = some (.slice At T.length ct) := (bkC FE.out.bB 1).trans rfl
 have hq_0 : wq.cell? ⟨q, 0, none⟩ = some (.pointer (some ⟨g, 0, none⟩)) := (bkC FE.out.qB 0).trans rfl
 go_wp2
 go_loopg [38] T.length (fun kq v38 w' => ∃ (j : Nat) (vp : Value) (vals : List (List Value)), v38 = .int .i64 (j : Int) ∧ Az0 (j + kq = T.length) ∧ Az0 (REnv w w' gb g q Ar cr At ct R T j vp vals))
 case atStart => exact ⟨0, _, _, rfl, ⟨by simp⟩, FE⟩
 case round =>
  clear FE hb_0 hb_1 hq_0
  obtain ⟨j, vp, vals, rfl, HJ, FE⟩ := hrel
  have hb_0 : wr.cell? ⟨gb, 0, none⟩ = some (.slice Ar R.length cr) := (bkC FE.out.bB 0).trans rfl
  have hb_1 : wr.cell? ⟨gb, 1, none⟩ = some (.slice At T.length ct) := (bkC FE.out.bB 1).trans rfl
  have hq_0 : wr.cell? ⟨q, 0, none⟩ = some (.pointer (some ⟨g, 0, none⟩)) := (bkC FE.out.qB 0).trans rfl
  cases gk with
  | zero =>
   obtain rfl : j = T.length := by have := HJ.out; omega
   have c5b : decide ((T.length : Int) < (T.length : Int)) = false := decide_eq_false (by omega)
   have c5b2 : decide (T.length < T.length) = false := decide_eq_false (by omega)
   have HTA := Az0.mk (all_rd (tollOk R.length) T FE.out.ok)
   clear HJ
   go_wp2
   go_loopg [71] R.length (fun kq v71 w' => ∃ (i : Nat), v71 = .int .i64 (i : Int) ∧ Az0 (i + kq = R.length) ∧ Az0 (∀ a : Nat, a < i → routeOk T.length (rd_L12 R (a : Int)) = true) ∧ Az0 (REnv w w' gb g q Ar cr At ct R T T.length vp vals))
   case atStart => exact ⟨0, rfl, ⟨by simp⟩, ⟨fun a ha => absurd ha (Nat.not_lt_zero _)⟩, FE⟩
   case round =>
    clear FE hb_0 hb_1 hq_0
    obtain ⟨i, rfl, HI, HA, FE⟩ := hrel
    cases gk with
    | zero =>
     have hi := HI.out
     have c6b : decide ((i : Int) < (R.length : Int)) = false := decide_eq_false (by omega)
     have c6b2 : decide (i < R.length) = false := decide_eq_false (by omega)
     have HRX := Az0.mk (show readOk R T = true by rw [HRB.out, HTA.out, Bool.true_and]; exact all_rd _ R (fun a ha => HA.out a (by omega)))
     have hq_0 : wr.cell? ⟨q, 0, none⟩ = some (.pointer (some ⟨g, 0, none⟩)) := (bkC FE.out.qB 0).trans rfl
     have hqg := FE.out.nq
     have hgq : g ≠ q := fun e => FE.out.nq e.symm
     have hp_2 : wr.cell? ⟨g, 2, none⟩ = some .nilFunc := (bkC FE.out.gB 2).trans rfl
     have hf_2 := blk_frozen FE.out.gB 2
     clear hi
     have HGM := Az0.mk (FE.out.game HRR.out HCR.out HN.out.2.1)
     go_wp2
     go_ret2
     exact .inl ⟨HRX.out, g, by first | rfl | (simp; done), FE.out.gg, HGM.out.1, HGM.out.2⟩
    | succ k1 =>
     have hi0 : (0 : Int) ≤ (i : Int) := Int.natCast_nonneg _
     have hi1 : (i : Int) < (R.length : Int) := by have := HI.out; omega
     have c6b : decide ((i : Int) < (R.length : Int)) = true := decide_eq_true hi1
     have c6b2 : decide (i < R.length) = true := decide_eq_true (by omega)
     have hi2 : (i < R.length) = True := eq_true (by omega)
     have HIL := Az0.mk (show i < R.length by have := HI.out; omega)
     obtain ⟨ad, A0, c0, e, hx, hc0, hC⟩ := at_L12 HRR.out (i : Int) hi0 hi1
     cases e
     simp only [Int.toNat_natCast] at hx
     replace hx := (FE.out.hB.cell (World.block_lt_of_cell? w _ hx)).trans hx
     obtain ⟨l, hl⟩ : ∃ l, rd_L12 R (i : Int) = l := ⟨_, rfl⟩
     have HLL := Az0.mk hl
     rw [hl] at hx hc0 hC
     clear hl
     have HC0 := Az0.mk hc0
     have HC := Az0.mk hC
     clear hc0 hC
     replace hi0 := eq_true hi0
     replace hi1 := eq_true hi1
     obtain ⟨mi, hmi⟩ : ∃ mi, minU l (l.length - 1) = mi := ⟨_, rfl⟩
     have HMI := Az0.mk hmi
     clear hmi
     obtain ⟨ma, hma⟩ : ∃ ma, maxU l (l.length - 1) = ma := ⟨_, rfl⟩
     have HMA := Az0.mk hma
     clear hma
     obtain ⟨ji, hji⟩ : ∃ j_ : Int, shl .i64 1 (T.length : Int) = j_ := ⟨_, rfl⟩
     have HJI := Az0.mk hji
     have HRI := Az0.mk (show routeOk T.length (rd_L12 R (i : Int)) = (decide (1 ≤ l.length) && decide (l.length ≤ 5) && decide (1 ≤ mi) && decide (ma < ji)) by rw [HLL.out]; unfold routeOk; rw [HMI.out, HMA.out, hji])
     have hji_ := hji
     unfold shl at hji_
     have hji24z : (T.length : Int) ≤ 64 → (IntKind.i64.wrap (1 * 2 ^ (T.length : Int).toNat)) = ji := shl_small hji
     have hji24_ : (IntKind.i64.wrap (1 * 2 ^ min (T.length : Int).toNat 64)) = ji := hji
     have hji24u : (IntKind.i64.wrap (2 ^ min (T.length : Int).toNat 64)) = ji := by have h_ := hji24_; rw [Int.one_mul] at h_; exact h_
     have hji24v : (T.length : Int) ≤ 64 → (IntKind.i64.wrap (2 ^ (T.length : Int).toNat)) = ji := fun hle_ => by have h_ := hji24z hle_; rw [Int.one_mul] at h_; exact h_
     have hji24y : (wrap64 (1 * 2 ^ min (T.length : Int).toNat 64)) = ji := (i64_w _).symm.trans hji24_
     have hji24x : (T.length : Int) ≤ 64 → (wrap64 (1 * 2 ^ (T.length : Int).toNat)) = ji := fun h_ => (i64_w _).symm.trans (hji24z h_)
     have hji25 : (IntKind.i64.wrap (1 * 2 ^ T.length)) = ji := by have h_ := hji24z (by have := HN.out; omega); rwa [Int.toNat_natCast] at h_
     have hji26 : (IntKind.i64.wrap (2 ^ T.length)) = ji := by have h_ := hji25; rwa [Int.one_mul] at h_
     have hji27 : (IntKind.i64.wrap (1 * 2 ^ min T.length 64)) = ji := by have h_ := hji24_; rwa [Int.toNat_natCast] at h_
     have hji28 : (IntKind.i64.wrap (2 ^ min T.length 64)) = ji := by have h_ := hji27; rwa [Int.one_mul] at h_
     have hji29 : wrap64 (1 * 2 ^ T.length) = ji := (i64_w _).symm.trans hji25
     have hji30 : wrap64 (2 ^ T.length) = ji := (i64_w _).symm.trans hji26
     have hT0 : ((0 : Int) ≤ (T.length : Int)) = True := eq_true (by omega)
     by_cases r1 : l.length < 1
     case pos =>
      have r1_0 : decide ((l.length : Int) < 1) = true := decide_eq_true (by omega)
      have r1_1 : decide (l.length < 1) = true := decide_eq_true (by omega)
      have r1_2 : decide (l.length = 0) = true := decide_eq_true (by omega)
      have HRX := Az0.mk (show readOk R T = false by rw [HRB.out, not_all_rd _ R i HIL.out (by rw [HRI.out]; rw [decide_eq_false (show ¬ 1 ≤ l.length by omega)]; simp only [Bool.false_and]), Bool.and_false])
      clear r1 hji hji_
      go_upto_region 15 with (fail)
      have n0_ := Az0.mk (FE.out.below (bD1_ (Below.refl _ _)))
      clear FE
      have FE := n0_
      clear n0_ hx
      refine start_ (n := 22) (S := fun w' => w'.cell? ⟨gb, 1, none⟩ = some (.slice At T.length ct)) (ds := []) #[false, false, false, false, false, false, false, false, false, false, false, false, false, false, false, false, false, false, false, false, false, false] (by kernel_rfl) rfl rfl ((bkC FE.out.bB 1).trans rfl) (fun hHeld => ?_); refine with_tabW read.tab15 read.bits15 (fun HT_ HW_ => ?_)
      generalize World.drew _ = wd at FE hHeld ⊢
      refine pure_ (i := 0) (N := some 75) (v := ?_) (a' := ?_) #[true, false, false, false, false, false, false, false, false, false, false, false, false, false, false, false, false, false, false, false, false, false] rfl rfl (any_of HT_.out (by kernel_rfl)) (fun _ _ _ h => h) (Or.inl ⟨by rfl, ?_⟩) ?_ ?_
      rotate_left
      ·intro w'
       go_simp
       first | with_reducible rfl | rfl
      rotate_left
      ·simp only [Act.put, List.setIfInBounds_toArray, List.set_cons_zero, List.set_cons_succ, i64_w, i32_w]
       rfl
      refine pure_ (i := 1) (N := some 76) (v := ?_) (a' := ?_) #[true, true, false, false, false, false, false, false, false, false, false, false, false, false, false, false, false, false, false, false, false, false] rfl rfl (any_of HT_.out (by kernel_rfl)) (fun _ _ _ h => h) (Or.inl ⟨by rfl, ?_⟩) ?_ ?_
      rotate_left
      ·intro w'
       go_simp
       first | with_reducible rfl | rfl
      rotate_left
      ·simp only [Act.put, List.setIfInBounds_toArray, List.set_cons_zero, List.set_cons_succ, i64_w, i32_w]
       rfl
      refine pure_ (i := 2) (N := some 77) (v := ?_) (a' := ?_) #[true, true, true, false, false, false, false, false, false, false, false, false, false, false, false, false, false, false, false, false, false, false] rfl rfl (any_of HT_.out (by kernel_rfl)) (fun _ _ _ h => h) (Or.inl ⟨by rfl, ?_⟩) ?_ ?_
      rotate_left
      ·intro w'
       go_simp
       first | with_reducible rfl | rfl
      rotate_left
      ·simp only [Act.put, List.setIfInBounds_toArray, List.set_cons_zero, List.set_cons_succ, i64_w, i32_w]
       rfl
      refine pure_ (i := 3) (N := some 78) (v := ?_) (a' := ?_) #[true, true, true, true, false, false, false, false, false, false, false, false, false, false, false, false, false, false, false, false, false, false] rfl rfl (any_of HT_.out (by kernel_rfl)) (fun _ _ _ h => h) (Or.inl ⟨by rfl, ?_⟩) ?_ ?_
      rotate_left
      ·intro w'
       go_simp
       first | with_reducible rfl | rfl
      rotate_left
      ·simp only [Act.put, List.setIfInBounds_toArray, List.set_cons_zero, List.set_cons_succ, i64_w, i32_w]
       rfl
      refine pure_ (i := 4) (N := some 79) (v := undef) (a' := ?_) #[true, true, true, true, true, false, false, false, false, false, false, false, false, false, false, false, false, false, false, false, false, false] rfl rfl (any_of HT_.out (by kernel_rfl)) (fun _ _ _ h => h) (Or.inr ⟨by rfl, rfl⟩) ?_ ?_
      rotate_left
      ·simp only [Act.put, List.setIfInBounds_toArray, List.set_cons_zero, List.set_cons_succ, i64_w, i32_w]
       rfl
      refine pure_ (i := 5) (N := some 80) (v := undef) (a' := ?_) #[true, true, true, true, true, true, false, false, false, false, false, false, false, false, false, false, false, false, false, false, false, false] rfl rfl (any_of HT_.out (by kernel_rfl)) (fun _ _ _ h => h) (Or.inr ⟨by rfl, rfl⟩) ?_ ?_
      rotate_left
      ·simp only [Act.put, List.setIfInBounds_toArray, List.set_cons_zero, List.set_cons_succ, i64_w, i32_w]
       rfl
      refine pure_ (i := 6) (N := some 81) (v := undef) (a' := ?_) #[true, true, true, true, true, true, true, false, false, false, false, false, false, false, false, false, false, false, false, false, false, false] rfl rfl (any_of HT_.out (by kernel_rfl)) (fun _ _ _ h => h) (Or.inr ⟨by rfl, rfl⟩) ?_ ?_
      rotate_left
      ·simp only [Act.put, List.setIfInBounds_toArray, List.set_cons_zero, List.set_cons_succ, i64_w, i32_w]
       rfl
      refine pure_ (i := 7) (N := some 82) (v := ?_) (a' := ?_) #[true, true, true, true, true, true, true, true, false, false, false, false, false, false, false, false, false, false, false, false, false, false] rfl rfl (any_of HT_.out (by kernel_rfl)) (fun _ _ _ h => h) (Or.inl ⟨by rfl, ?_⟩) ?_ ?_
      rotate_left
      ·intro w'
       go_simp
       first | with_reducible rfl | rfl
      rotate_left
      ·simp only [Act.put, List.setIfInBounds_toArray, List.set_cons_zero, List.set_cons_succ, i64_w, i32_w]
       rfl
      refine pure_ (i := 8) (N := some 83) (v := ?_) (a' := ?_) #[true, true, true, true, true, true, true, true, true, false, false, false, false, false, false, false, false, false, false, false, false, false] rfl rfl (any_of HT_.out (by kernel_rfl)) (fun _ _ _ h => h) (Or.inl ⟨by rfl, ?_⟩) ?_ ?_
      rotate_left
      ·intro w'
       go_simp
       first | with_reducible rfl | rfl
      rotate_left
      ·simp only [Act.put, List.setIfInBounds_toArray, List.set_cons_zero, List.set_cons_succ, i64_w, i32_w]
       rfl
      refine pure_ (i := 9) (N := some 84) (v := undef) (a' := ?_) #[true, true, true, true, true, true, true, true, true, true, false, false, false, false, false, false, false, false, false, false, false, false] rfl rfl (any_of HT_.out (by kernel_rfl)) (fun _ _ _ h => h) (Or.inr ⟨by rfl, rfl⟩) ?_ ?_
      rotate_left
      ·simp only [Act.put, List.setIfInBounds_toArray, List.set_cons_zero, List.set_cons_succ, i64_w, i32_w]
       rfl
      refine pure_ (i := 10) (N := some 85) (v := undef) (a' := ?_) #[true, true, true, true, true, true, true, true, true, true, true, false, false, false, false, false, false, false, false, false, false, false] rfl rfl (any_of HT_.out (by kernel_rfl)) (fun _ _ _ h => h) (Or.inr ⟨by rfl, rfl⟩) ?_ ?_
      rotate_left
      ·simp only [Act.put, List.setIfInBounds_toArray, List.set_cons_zero, List.set_cons_succ, i64_w, i32_w]
       rfl
      refine pure_ (i := 11) (N := some 86) (v := undef) (a' := ?_) #[true, true, true, true, true, true, true, true, true, true, true, true, false, false, false, false, false, false, false, false, false, false] rfl rfl (any_of HT_.out (by kernel_rfl)) (fun _ _ _ h => h) (Or.inr ⟨by rfl, rfl⟩) ?_ ?_
      rotate_left
      ·simp only [Act.put, List.setIfInBounds_toArray, List.set_cons_zero, List.set_cons_succ, i64_w, i32_w]
       rfl
      refine pure_ (i := 12) (N := some 87) (v := ?_) (a' := ?_) #[true, true, true, true, true, true, true, true, true, true, true, true, true, false, false, false, false, false, false, false, false, false] rfl rfl (any_of HT_.out (by kernel_rfl)) (fun _ _ _ h => h) (Or.inl ⟨by rfl, ?_⟩) ?_ ?_
      rotate_left
      ·intro w'
       go_simp
       first | with_reducible rfl | rfl
      rotate_left
      ·simp only [Act.put, List.setIfInBounds_toArray, List.set_cons_zero, List.set_cons_succ, i64_w, i32_w]
       rfl
      refine pure_ (i := 13) (N := some 88) (v := ?_) (a' := ?_) #[true, true, true, true, true, true, true, true, true, true, true, true, true, true, false, false, false, false, false, false, false, false] rfl rfl (any_of HT_.out (by kernel_rfl)) (fun _ _ _ h => h) (Or.inl ⟨by rfl, ?_⟩) ?_ ?_
      rotate_left
      ·intro w'
       go_simp
       first | with_reducible rfl | rfl
      rotate_left
      ·simp only [Act.put, List.setIfInBounds_toArray, List.set_cons_zero, List.set_cons_succ, i64_w, i32_w]
       rfl
      refine pure_ (i := 14) (N := some 89) (v := undef) (a' := ?_) #[true, true, true, true, true, true, true, true, true, true, true, true, true, true, true, false, false, false, false, false, false, false] rfl rfl (any_of HT_.out (by kernel_rfl)) (fun _ _ _ h => h) (Or.inr ⟨by rfl, rfl⟩) ?_ ?_
      rotate_left
      ·simp only [Act.put, List.setIfInBounds_toArray, List.set_cons_zero, List.set_cons_succ, i64_w, i32_w]
       rfl
      refine pure_ (i := 15) (N := some 90) (v := undef) (a' := ?_) #[true, true, true, true, true, true, true, true, true, true, true, true, true, true, true, true, false, false, false, false, false, false] rfl rfl (any_of HT_.out (by kernel_rfl)) (fun _ _ _ h => h) (Or.inr ⟨by rfl, rfl⟩) ?_ ?_
      rotate_left
      ·simp only [Act.put, List.setIfInBounds_toArray, List.set_cons_zero, List.set_cons_succ, i64_w, i32_w]
       rfl
      refine pure_ (i := 16) (N := some 91) (v := undef) (a' := ?_) #[true, true, true, true, true, true, true, true, true, true, true, true, true, true, true, true, true, false, false, false, false, false] rfl rfl (any_of HT_.out (by kernel_rfl)) (fun _ _ _ h => h) (Or.inr ⟨by rfl, rfl⟩) ?_ ?_
      rotate_left
      ·simp only [Act.put, List.setIfInBounds_toArray, List.set_cons_zero, List.set_cons_succ, i64_w, i32_w]
       rfl
      refine pure_ (i := 17) (N := some 92) (v := undef) (a' := ?_) #[true, true, true, true, true, true, true, true, true, true, true, true, true, true, true, true, true, true, false, false, false, false] rfl rfl (any_of HT_.out (by kernel_rfl)) (fun _ _ _ h => h) (Or.inr ⟨by rfl, rfl⟩) ?_ ?_
      rotate_left
      ·simp only [Act.put, List.setIfInBounds_toArray, List.set_cons_zero, List.set_cons_succ, i64_w, i32_w]
       rfl
      refine pure_ (i := 18) (N := some 93) (v := undef) (a' := ?_) #[true, true, true, true, true, true, true, true, true, true, true, true, true, true, true, true, true, true, true, false, false, false] rfl rfl (any_of HT_.out (by kernel_rfl)) (fun _ _ _ h => h) (Or.inr ⟨by rfl, rfl⟩) ?_ ?_
      rotate_left
      ·simp only [Act.put, List.setIfInBounds_toArray, List.set_cons_zero, List.set_cons_succ, i64_w, i32_w]
       rfl
      refine pure_ (i := 19) (N := some 94) (v := undef) (a' := ?_) #[true, true, true, true, true, true, true, true, true, true, true, true, true, true, true, true, true, true, true, true, false, false] rfl rfl (any_of HT_.out (by kernel_rfl)) (fun _ _ _ h => h) (Or.inr ⟨by rfl, rfl⟩) ?_ ?_
      rotate_left
      ·simp only [Act.put, List.setIfInBounds_toArray, List.set_cons_zero, List.set_cons_succ, i64_w, i32_w]
       rfl
      refine pure_ (i := 20) (N := some 95) (v := undef) (a' := ?_) #[true, true, true, true, true, true, true, true, true, true, true, true, true, true, true, true, true, true, true, true, true, false] rfl rfl (any_of HT_.out (by kernel_rfl)) (fun _ _ _ h => h) (Or.inr ⟨by rfl, rfl⟩) ?_ ?_
      rotate_left
      ·simp only [Act.put, List.setIfInBounds_toArray, List.set_cons_zero, List.set_cons_succ, i64_w, i32_w]
       rfl
      refine pure_ (i := 21) (N := some 96) (v := ?_) (a' := ?_) #[true, true, true, true, true, true, true, true, true, true, true, true, true, true, true, true, true, true, true, true, true, true] rfl rfl (any_of HT_.out (by kernel_rfl)) (fun _ _ _ h => h) (Or.inl ⟨by rfl, ?_⟩) ?_ ?_
      rotate_left
      ·intro w'
       go_simp
       first | with_reducible rfl | rfl
      rotate_left
      ·simp only [Act.put, List.setIfInBounds_toArray, List.set_cons_zero, List.set_cons_succ, i64_w, i32_w]
       rfl
      refine done_ (done_of HT_.out (by kernel_rfl)) ?_
      try go_wp2
      go_ret2
      exact .inr ⟨HRX.out, by first | rfl | (simp; done), FE.out.hB⟩
     have r1_0 : decide ((l.length : Int) < 1) = false := decide_eq_false (by omega)
     have r1_1 : decide (l.length < 1) = false := decide_eq_false (by omega)
     have r1_2 : decide (l.length = 0) = false := decide_eq_false (by omega)
     have HL1 := Az0.mk (show 1 ≤ l.length by omega)
     by_cases r2 : 5 < l.length
     case pos =>
      have r2_0 : decide (5 < (l.length : Int)) = true := decide_eq_true (by omega)
      have r2_1 : decide (5 < l.length) = true := decide_eq_true (by omega)
      have HRX := Az0.mk (show readOk R T = false by rw [HRB.out, not_all_rd _ R i HIL.out (by rw [HRI.out]; rw [decide_eq_false (show ¬ l.length ≤ 5 by omega)]; simp only [Bool.false_and, Bool.and_false]), Bool.and_false])
      clear r1 r2 hji hji_
      go_upto_region 15 with (fail)
      have n0_ := Az0.mk (FE.out.below (bD1_ (Below.refl _ _)))
      clear FE
      have FE := n0_
      clear n0_ hx
      refine start_ (n := 22) (S := fun w' => w'.cell? ⟨gb, 1, none⟩ = some (.slice At T.length ct)) (ds := []) #[false, false, false, false, false, false, false, false, false, false, false, false, false, false, false, false, false, false, false, false, false, false] (by kernel_rfl) rfl rfl ((bkC FE.out.bB 1).trans rfl) (fun hHeld => ?_); refine with_tabW read.tab15 read.bits15 (fun HT_ HW_ => ?_)
      generalize World.drew _ = wd at FE hHeld ⊢
      refine pure_ (i := 0) (N := some 75) (v := ?_) (a' := ?_) #[true, false, false, false, false, false, false, false, false, false, false, false, false, false, false, false, false, false, false, false, false, false] rfl rfl (any_of HT_.out (by kernel_rfl)) (fun _ _ _ h => h) (Or.inl ⟨by rfl, ?_⟩) ?_ ?_
      rotate_left
      ·intro w'
       go_simp
       first | with_reducible rfl | rfl
      rotate_left
      ·simp only [Act.put, List.setIfInBounds_toArray, List.set_cons_zero, List.set_cons_succ, i64_w, i32_w]
       rfl
      refine pure_ (i := 1) (N := some 76) (v := ?_) (a' := ?_) #[true, true, false, false, false, false, false, false, false, false, false, false, false, false, false, false, false, false, false, false, false, false] rfl rfl (any_of HT_.out (by kernel_rfl)) (fun _ _ _ h => h) (Or.inl ⟨by rfl, ?_⟩) ?_ ?_
      rotate_left
      ·intro w'
       go_simp
       first | with_reducible rfl | rfl
      rotate_left
      ·simp only [Act.put, List.setIfInBounds_toArray, List.set_cons_zero, List.set_cons_succ, i64_w, i32_w]
       rfl
      refine pure_ (i := 2) (N := some 77) (v := ?_) (a' := ?_) #[true, true, true, false, false, false, false, false, false, false, false, false, false, false, false, false, false, false, false, false, false, false] rfl rfl (any_of HT_.out (by kernel_rfl)) (fun _ _ _ h => h) (Or.inl ⟨by rfl, ?_⟩) ?_ ?_
      rotate_left
      ·intro w'
       go_simp
       first | with_reducible rfl | rfl
      rotate_left
      ·simp only [Act.put, List.setIfInBounds_toArray, List.set_cons_zero, List.set_cons_succ, i64_w, i32_w]
       rfl
      refine pure_ (i := 3) (N := some 78) (v := ?_) (a' := ?_) #[true, true, true, true, false, false, false, false, false, false, false, false, false, false, false, false, false, false, false, false, false, false] rfl rfl (any_of HT_.out (by kernel_rfl)) (fun _ _ _ h => h) (Or.inl ⟨by rfl, ?_⟩) ?_ ?_
      rotate_left
      ·intro w'
       go_simp
       first | with_reducible rfl | rfl
      rotate_left
      ·simp only [Act.put, List.setIfInBounds_toArray, List.set_cons_zero, List.set_cons_succ, i64_w, i32_w]
       rfl
      refine pure_ (i := 4) (N := some 79) (v := ?_) (a' := ?_) #[true, true, true, true, true, false, false, false, false, false, false, false, false, false, false, false, false, false, false, false, false, false] rfl rfl (any_of HT_.out (by kernel_rfl)) (fun _ _ _ h => h) (Or.inl ⟨by rfl, ?_⟩) ?_ ?_
      rotate_left
      ·intro w'
       go_simp
       first | with_reducible rfl | rfl
      rotate_left
      ·simp only [Act.put, List.setIfInBounds_toArray, List.set_cons_zero, List.set_cons_succ, i64_w, i32_w]
       rfl
      refine pure_ (i := 5) (N := some 80) (v := ?_) (a' := ?_) #[true, true, true, true, true, true, false, false, false, false, false, false, false, false, false, false, false, false, false, false, false, false] rfl rfl (any_of HT_.out (by kernel_rfl)) (fun _ _ _ h => h) (Or.inl ⟨by rfl, ?_⟩) ?_ ?_
      rotate_left
      ·intro w'
       go_simp
       first | with_reducible rfl | rfl
      rotate_left
      ·simp only [Act.put, List.setIfInBounds_toArray, List.set_cons_zero, List.set_cons_succ, i64_w, i32_w]
       rfl
      refine pure_ (i := 6) (N := some 81) (v := ?_) (a' := ?_) #[true, true, true, true, true, true, true, false, false, false, false, false, false, false, false, false, false, false, false, false, false, false] rfl rfl (any_of HT_.out (by kernel_rfl)) (fun _ _ _ h => h) (Or.inl ⟨by rfl, ?_⟩) ?_ ?_
      rotate_left
      ·intro w'
       go_simp
       first | with_reducible rfl | rfl
      rotate_left
      ·simp only [Act.put, List.setIfInBounds_toArray, List.set_cons_zero, List.set_cons_succ, i64_w, i32_w]
       rfl
      refine pure_ (i := 7) (N := some 82) (v := ?_) (a' := ?_) #[true, true, true, true, true, true, true, true, false, false, false, false, false, false, false, false, false, false, false, false, false, false] rfl rfl (any_of HT_.out (by kernel_rfl)) (fun _ _ _ h => h) (Or.inl ⟨by rfl, ?_⟩) ?_ ?_
      rotate_left
      ·intro w'
       go_simp
       first | with_reducible rfl | rfl
      rotate_left
      ·simp only [Act.put, List.setIfInBounds_toArray, List.set_cons_zero, List.set_cons_succ, i64_w, i32_w]
       rfl
      refine pure_ (i := 8) (N := some 83) (v := ?_) (a' := ?_) #[true, true, true, true, true, true, true, true, true, false, false, false, false, false, false, false, false, false, false, false, false, false] rfl rfl (any_of HT_.out (by kernel_rfl)) (fun _ _ _ h => h) (Or.inl ⟨by rfl, ?_⟩) ?_ ?_
      rotate_left
      ·intro w'
       go_simp
       first | with_reducible rfl | rfl
      rotate_left
      ·simp only [Act.put, List.setIfInBounds_toArray, List.set_cons_zero, List.set_cons_succ, i64_w, i32_w]
       rfl
      refine pure_ (i := 9) (N := some 84) (v := undef) (a' := ?_) #[true, true, true, true, true, true, true, true, true, true, false, false, false, false, false, false, false, false, false, false, false, false] rfl rfl (any_of HT_.out (by kernel_rfl)) (fun _ _ _ h => h) (Or.inr ⟨by rfl, rfl⟩) ?_ ?_
      rotate_left
      ·simp only [Act.put, List.setIfInBounds_toArray, List.set_cons_zero, List.set_cons_succ, i64_w, i32_w]
       rfl
      refine pure_ (i := 10) (N := some 85) (v := undef) (a' := ?_) #[true, true, true, true, true, true, true, true, true, true, true, false, false, false, false, false, false, false, false, false, false, false] rfl rfl (any_of HT_.out (by kernel_rfl)) (fun _ _ _ h => h) (Or.inr ⟨by rfl, rfl⟩) ?_ ?_
      rotate_left
      ·simp only [Act.put, List.setIfInBounds_toArray, List.set_cons_zero, List.set_cons_succ, i64_w, i32_w]
       rfl
      refine pure_ (i := 11) (N := some 86) (v := undef) (a' := ?_) #[true, true, true, true, true, true, true, true, true, true, true, true, false, false, false, false, false, false, false, false, false, false] rfl rfl (any_of HT_.out (by kernel_rfl)) (fun _ _ _ h => h) (Or.inr ⟨by rfl, rfl⟩) ?_ ?_
      rotate_left
      ·simp only [Act.put, List.setIfInBounds_toArray, List.set_cons_zero, List.set_cons_succ, i64_w, i32_w]
       rfl
      refine pure_ (i := 12) (N := some 87) (v := ?_) (a' := ?_) #[true, true, true, true, true, true, true, true, true, true, true, true, true, false, false, false, false, false, false, false, false, false] rfl rfl (any_of HT_.out (by kernel_rfl)) (fun _ _ _ h => h) (Or.inl ⟨by rfl, ?_⟩) ?_ ?_
      rotate_left
      ·intro w'
       go_simp
       first | with_reducible rfl | rfl
      rotate_left
      ·simp only [Act.put, List.setIfInBounds_toArray, List.set_cons_zero, List.set_cons_succ, i64_w, i32_w]
       rfl
      refine pure_ (i := 13) (N := some 88) (v := ?_) (a' := ?_) #[true, true, true, true, true, true, true, true, true, true, true, true, true, true, false, false, false, false, false, false, false, false] rfl rfl (any_of HT_.out (by kernel_rfl)) (fun _ _ _ h => h) (Or.inl ⟨by rfl, ?_⟩) ?_ ?_
      rotate_left
      ·intro w'
       go_simp
       first | with_reducible rfl | rfl
      rotate_left
      ·simp only [Act.put, List.setIfInBounds_toArray, List.set_cons_zero, List.set_cons_succ, i64_w, i32_w]
       rfl
      refine pure_ (i := 14) (N := some 89) (v := undef) (a' := ?_) #[true, true, true, true, true, true, true, true, true, true, true, true, true, true, true, false, false, false, false, false, false, false] rfl rfl (any_of HT_.out (by kernel_rfl)) (fun _ _ _ h => h) (Or.inr ⟨by rfl, rfl⟩) ?_ ?_
      rotate_left
      ·simp only [Act.put, List.setIfInBounds_toArray, List.set_cons_zero, List.set_cons_succ, i64_w, i32_w]
       rfl
      refine pure_ (i := 15) (N := some 90) (v := undef) (a' := ?_) #[true, true, true, true, true, true, true, true, true, true, true, true, true, true, true, true, false, false, false, false, false, false] rfl rfl (any_of HT_.out (by kernel_rfl)) (fun _ _ _ h => h) (Or.inr ⟨by rfl, rfl⟩) ?_ ?_
      rotate_left
      ·simp only [Act.put, List.setIfInBounds_toArray, List.set_cons_zero, List.set_cons_succ, i64_w, i32_w]
       rfl
      refine pure_ (i := 16) (N := some 91) (v := undef) (a' := ?_) #[true, true, true, true, true, true, true, true, true, true, true, true, true, true, true, true, true, false, false, false, false, false] rfl rfl (any_of HT_.out (by kernel_rfl)) (fun _ _ _ h => h) (Or.inr ⟨by rfl, rfl⟩) ?_ ?_
      rotate_left
      ·simp only [Act.put, List.setIfInBounds_toArray, List.set_cons_zero, List.set_cons_succ, i64_w, i32_w]
       rfl
      refine pure_ (i := 17) (N := some 92) (v := undef) (a' := ?_) #[true, true, true, true, true, true, true, true, true, true, true, true, true, true, true, true, true, true, false, false, false, false] rfl rfl (any_of HT_.out (by kernel_rfl)) (fun _ _ _ h => h) (Or.inr ⟨by rfl, rfl⟩) ?_ ?_
      rotate_left
      ·simp only [Act.put, List.setIfInBounds_toArray, List.set_cons_zero, List.set_cons_succ, i64_w, i32_w]
       rfl
      refine pure_ (i := 18) (N := some 93) (v := undef) (a' := ?_) #[true, true, true, true, true, true, true, true, true, true, true, true, true, true, true, true, true, true, true, false, false, false] rfl rfl (any_of HT_.out (by kernel_rfl)) (fun _ _ _ h => h) (Or.inr ⟨by rfl, rfl⟩) ?_ ?_
      rotate_left
      ·simp only [Act.put, List.setIfInBounds_toArray, List.set_cons_zero, List.set_cons_succ, i64_w, i32_w]
       rfl
      refine pure_ (i := 19) (N := some 94) (v := undef) (a' := ?_) #[true, true, true, true, true, true, true, true, true, true, true, true, true, true, true, true, true, true, true, true, false, false] rfl rfl (any_of HT_.out (by kernel_rfl)) (fun _ _ _ h => h) (Or.inr ⟨by rfl, rfl⟩) ?_ ?_
      rotate_left
      ·simp only [Act.put, List.setIfInBounds_toArray, List.set_cons_zero, List.set_cons_succ, i64_w, i32_w]
       rfl
      refine pure_ (i := 20) (N := some 95) (v := undef) (a' := ?_) #[true, true, true, true, true, true, true, true, true, true, true, true, true, true, true, true, true, true, true, true, true, false] rfl rfl (any_of HT_.out (by kernel_rfl)) (fun _ _ _ h => h) (Or.inr ⟨by rfl, rfl⟩) ?_ ?_
      rotate_left
      ·simp only [Act.put, List.setIfInBounds_toArray, List.set_cons_zero, List.set_cons_succ, i64_w, i32_w]
       rfl
      refine pure_ (i := 21) (N := some 96) (v := ?_) (a' := ?_) #[true, true, true, true, true, true, true, true, true, true, true, true, true, true, true, true, true, true, true, true, true, true] rfl rfl (any_of HT_.out (by kernel_rfl)) (fun _ _ _ h => h) (Or.inl ⟨by rfl, ?_⟩) ?_ ?_
      rotate_left
      ·intro w'
       go_simp
       first | with_reducible rfl | rfl
      rotate_left
      ·simp only [Act.put, List.setIfInBounds_toArray, List.set_cons_zero, List.set_cons_succ, i64_w, i32_w]
       rfl
      refine done_ (done_of HT_.out (by kernel_rfl)) ?_
      try go_wp2
      go_ret2
      exact .inr ⟨HRX.out, by first | rfl | (simp; done), FE.out.hB⟩
     have r2_0 : decide (5 < (l.length : Int)) = false := decide_eq_false (by omega)
     have r2_1 : decide (5 < l.length) = false := decide_eq_false (by omega)
     have HL2 := Az0.mk (show l.length ≤ 5 by omega)
     clear r1 r2 hji hji_
     by_cases r3 : mi < 1
     case pos =>
      have r3_0 : decide (mi < 1) = true := decide_eq_true (by omega)
      have HRX := Az0.mk (show readOk R T = false by rw [HRB.out, not_all_rd _ R i HIL.out (by rw [HRI.out]; rw [decide_eq_false (show ¬ 1 ≤ mi by omega)]; simp only [Bool.false_and, Bool.and_false]), Bool.and_false])
      clear r3
      go_upto_region 15 with (fail)
      have n0_ := Az0.mk (FE.out.below (bD1_ (Below.refl _ _)))
      clear FE
      have FE := n0_
      clear n0_ hx
      refine start_ (n := 22) (S := fun w' => w'.cell? ⟨gb, 1, none⟩ = some (.slice At T.length ct)) (ds := []) #[false, false, false, false, false, false, false, false, false, false, false, false, false, false, false, false, false, false, false, false, false, false] (by kernel_rfl) rfl rfl ((bkC FE.out.bB 1).trans rfl) (fun hHeld => ?_); refine with_tabW read.tab15 read.bits15 (fun HT_ HW_ => ?_)
      generalize World.drew _ = wd at FE hHeld ⊢
      refine pure_ (i := 0) (N := some 75) (v := ?_) (a' := ?_) #[true, false, false, false, false, false, false, false, false, false, false, false, false, false, false, false, false, false, false, false, false, false] rfl rfl (any_of HT_.out (by kernel_rfl)) (fun _ _ _ h => h) (Or.inl ⟨by rfl, ?_⟩) ?_ ?_
      rotate_left
      ·intro w'
       go_simp
       first | with_reducible rfl | rfl
      rotate_left
      ·simp only [Act.put, List.setIfInBounds_toArray, List.set_cons_zero, List.set_cons_succ, i64_w, i32_w]
       rfl
      refine pure_ (i := 1) (N := some 76) (v := ?_) (a' := ?_) #[true, true, false, false, false, false, false, false, false, false, false, false, false, false, false, false, false, false, false, false, false, false] rfl rfl (any_of HT_.out (by kernel_rfl)) (fun _ _ _ h => h) (Or.inl ⟨by rfl, ?_⟩) ?_ ?_
      rotate_left
      ·intro w'
       go_simp
       first | with_reducible rfl | rfl
      rotate_left
      ·simp only [Act.put, List.setIfInBounds_toArray, List.set_cons_zero, List.set_cons_succ, i64_w, i32_w]
       rfl
      refine pure_ (i := 2) (N := some 77) (v := ?_) (a' := ?_) #[true, true, true, false, false, false, false, false, false, false, false, false, false, false, false, false, false, false, false, false, false, false] rfl rfl (any_of HT_.out (by kernel_rfl)) (fun _ _ _ h => h) (Or.inl ⟨by rfl, ?_⟩) ?_ ?_
      rotate_left
      ·intro w'
       go_simp
       first | with_reducible rfl | rfl
      rotate_left
      ·simp only [Act.put, List.setIfInBounds_toArray, List.set_cons_zero, List.set_cons_succ, i64_w, i32_w]
       rfl
      refine pure_ (i := 3) (N := some 78) (v := ?_) (a' := ?_) #[true, true, true, true, false, false, false, false, false, false, false, false, false, false, false, false, false, false, false, false, false, false] rfl rfl (any_of HT_.out (by kernel_rfl)) (fun _ _ _ h => h) (Or.inl ⟨by rfl, ?_⟩) ?_ ?_
      rotate_left
      ·intro w'
       go_simp
       first | with_reducible rfl | rfl
      rotate_left
      ·simp only [Act.put, List.setIfInBounds_toArray, List.set_cons_zero, List.set_cons_succ, i64_w, i32_w]
       rfl
      refine pure_ (i := 4) (N := some 79) (v := ?_) (a' := ?_) #[true, true, true, true, true, false, false, false, false, false, false, false, false, false, false, false, false, false, false, false, false, false] rfl rfl (any_of HT_.out (by kernel_rfl)) (fun _ _ _ h => h) (Or.inl ⟨by rfl, ?_⟩) ?_ ?_
      rotate_left
      ·intro w'
       go_simp
       first | with_reducible rfl | rfl
      rotate_left
      ·simp only [Act.put, List.setIfInBounds_toArray, List.set_cons_zero, List.set_cons_succ, i64_w, i32_w]
       rfl
      refine pure_ (i := 5) (N := some 80) (v := ?_) (a' := ?_) #[true, true, true, true, true, true, false, false, false, false, false, false, false, false, false, false, false, false, false, false, false, false] rfl rfl (any_of HT_.out (by kernel_rfl)) (fun _ _ _ h => h) (Or.inl ⟨by rfl, ?_⟩) ?_ ?_
      rotate_left
      ·intro w'
       go_simp
       first | with_reducible rfl | rfl
      rotate_left
      ·simp only [Act.put, List.setIfInBounds_toArray, List.set_cons_zero, List.set_cons_succ, i64_w, i32_w]
       rfl
      refine pure_ (i := 6) (N := some 81) (v := ?_) (a' := ?_) #[true, true, true, true, true, true, true, false, false, false, false, false, false, false, false, false, false, false, false, false, false, false] rfl rfl (any_of HT_.out (by kernel_rfl)) (fun _ _ _ h => h) (Or.inl ⟨by rfl, ?_⟩) ?_ ?_
      rotate_left
      ·intro w'
       go_simp
       first | with_reducible rfl | rfl
      rotate_left
      ·simp only [Act.put, List.setIfInBounds_toArray, List.set_cons_zero, List.set_cons_succ, i64_w, i32_w]
       rfl
      refine pure_ (i := 7) (N := some 82) (v := ?_) (a' := ?_) #[true, true, true, true, true, true, true, true, false, false, false, false, false, false, false, false, false, false, false, false, false, false] rfl rfl (any_of HT_.out (by kernel_rfl)) (fun _ _ _ h => h) (Or.inl ⟨by rfl, ?_⟩) ?_ ?_
      rotate_left
      ·intro w'
       go_simp
       first | with_reducible rfl | rfl
      rotate_left
      ·simp only [Act.put, List.setIfInBounds_toArray, List.set_cons_zero, List.set_cons_succ, i64_w, i32_w]
       rfl
      refine pure_ (i := 8) (N := some 83) (v := ?_) (a' := ?_) #[true, true, true, true, true, true, true, true, true, false, false, false, false, false, false, false, false, false, false, false, false, false] rfl rfl (any_of HT_.out (by kernel_rfl)) (fun _ _ _ h => h) (Or.inl ⟨by rfl, ?_⟩) ?_ ?_
      rotate_left
      ·intro w'
       go_simp
       first | with_reducible rfl | rfl
      rotate_left
      ·simp only [Act.put, List.setIfInBounds_toArray, List.set_cons_zero, List.set_cons_succ, i64_w, i32_w]
       rfl
      refine pure_ (i := 9) (N := some 84) (v := ?_) (a' := ?_) #[true, true, true, true, true, true, true, true, true, true, false, false, false, false, false, false, false, false, false, false, false, false] rfl rfl (any_of HT_.out (by kernel_rfl)) (fun _ _ _ h => h) (Or.inl ⟨by rfl, ?_⟩) ?_ ?_
      rotate_left
      ·intro w'
       go_simp
       first | with_reducible rfl | rfl
      rotate_left
      ·simp only [Act.put, List.setIfInBounds_toArray, List.set_cons_zero, List.set_cons_succ, i64_w, i32_w]
       rfl
      refine one_ (i := 10) (N := some 85) #[true, true, true, true, true, true, true, true, true, true, true, false, false, false, false, false, false, false, false, false, false, false] rfl rfl (one_of HT_.out (by kernel_rfl)) (by decide) (fun K hK => ?_)
      refine goes_ Try.func88 (by kernel_rfl) rfl #[.slice A0 l.length c0] (by rfl) rfl rfl (by (try simp only [List.map_toArray, List.map_cons, List.map_nil]); first | done | rfl) ?_
      refine (min_calls A0 c0 l _ (Kd.C_below HC.out FE.out.hB) (by have := HL1.out; omega) (by have := HL2.out; omega)).mono ?_
      rintro e w7 ⟨rfl, hb⟩
      rw [HMI.out]
      refine ⟨_, rfl, ?_⟩
      have n0_ := Az0.mk (FE.out.below hb)
      clear FE hb
      have FE := n0_
      clear n0_
      refine hK.out _ _ ((bkC FE.out.bB 1).trans rfl) (fun hHeld => ?_)
      clear hK K
      refine norm_ (a' := ?_) ?_ ?_
      rotate_left
      ·show Act.put _ (some 85) _ = _
       simp only [Act.put, List.setIfInBounds_toArray, List.set_cons_zero, List.set_cons_succ, i64_w, i32_w]
       rfl
      refine pure_ (i := 11) (N := some 86) (v := ?_) (a' := ?_) #[true, true, true, true, true, true, true, true, true, true, true, true, false, false, false, false, false, false, false, false, false, false] rfl rfl (any_of HT_.out (by kernel_rfl)) (fun _ _ _ h => h) (Or.inl ⟨by rfl, ?_⟩) ?_ ?_
      rotate_left
      ·intro w'
       go_simp
       first | with_reducible rfl | rfl
      rotate_left
      ·simp only [Act.put, List.setIfInBounds_toArray, List.set_cons_zero, List.set_cons_succ, i64_w, i32_w]
       rfl
      refine pure_ (i := 12) (N := some 87) (v := ?_) (a' := ?_) #[true, true, true, true, true, true, true, true, true, true, true, true, true, false, false, false, false, false, false, false, false, false] rfl rfl (any_of HT_.out (by kernel_rfl)) (fun _ _ _ h => h) (Or.inl ⟨by rfl, ?_⟩) ?_ ?_
      rotate_left
      ·intro w'
       go_simp
       first | with_reducible rfl | rfl
      rotate_left
      ·simp only [Act.put, List.setIfInBounds_toArray, List.set_cons_zero, List.set_cons_succ, i64_w, i32_w]
       rfl
      refine pure_ (i := 13) (N := some 88) (v := ?_) (a' := ?_) #[true, true, true, true, true, true, true, true, true, true, true, true, true, true, false, false, false, false, false, false, false, false] rfl rfl (any_of HT_.out (by kernel_rfl)) (fun _ _ _ h => h) (Or.inl ⟨by rfl, ?_⟩) ?_ ?_
      rotate_left
      ·intro w'
       go_simp
       first | with_reducible rfl | rfl
      rotate_left
      ·simp only [Act.put, List.setIfInBounds_toArray, List.set_cons_zero, List.set_cons_succ, i64_w, i32_w]
       rfl
      refine pure_ (i := 14) (N := some 89) (v := undef) (a' := ?_) #[true, true, true, true, true, true, true, true, true, true, true, true, true, true, true, false, false, false, false, false, false, false] rfl rfl (any_of HT_.out (by kernel_rfl)) (fun _ _ _ h => h) (Or.inr ⟨by rfl, rfl⟩) ?_ ?_
      rotate_left
      ·simp only [Act.put, List.setIfInBounds_toArray, List.set_cons_zero, List.set_cons_succ, i64_w, i32_w]
       rfl
      refine pure_ (i := 15) (N := some 90) (v := undef) (a' := ?_) #[true, true, true, true, true, true, true, true, true, true, true, true, true, true, true, true, false, false, false, false, false, false] rfl rfl (any_of HT_.out (by kernel_rfl)) (fun _ _ _ h => h) (Or.inr ⟨by rfl, rfl⟩) ?_ ?_
      rotate_left
      ·simp only [Act.put, List.setIfInBounds_toArray, List.set_cons_zero, List.set_cons_succ, i64_w, i32_w]
       rfl
      refine pure_ (i := 16) (N := some 91) (v := undef) (a' := ?_) #[true, true, true, true, true, true, true, true, true, true, true, true, true, true, true, true, true, false, false, false, false, false] rfl rfl (any_of HT_.out (by kernel_rfl)) (fun _ _ _ h => h) (Or.inr ⟨by rfl, rfl⟩) ?_ ?_
      rotate_left
      ·simp only [Act.put, List.setIfInBounds_toArray, List.set_cons_zero, List.set_cons_succ, i64_w, i32_w]
       rfl
      refine pure_ (i := 17) (N := some 92) (v := undef) (a' := ?_) #[true, true, true, true, true, true, true, true, true, true, true, true, true, true, true, true, true, true, false, false, false, false] rfl rfl (any_of HT_.out (by kernel_rfl)) (fun _ _ _ h => h) (Or.inr ⟨by rfl, rfl⟩) ?_ ?_
      rotate_left
      ·simp only [Act.put, List.setIfInBounds_toArray, List.set_cons_zero, List.set_cons_succ, i64_w, i32_w]
       rfl
      refine pure_ (i := 18) (N := some 93) (v := undef) (a' := ?_) #[true, true, true, true, true, true, true, true, true, true, true, true, true, true, true, true, true, true, true, false, false, false] rfl rfl (any_of HT_.out (by kernel_rfl)) (fun _ _ _ h => h) (Or.inr ⟨by rfl, rfl⟩) ?_ ?_
      rotate_left
      ·simp only [Act.put, List.setIfInBounds_toArray, List.set_cons_zero, List.set_cons_succ, i64_w, i32_w]
       rfl
      refine pure_ (i := 19) (N := some 94) (v := undef) (a' := ?_) #[true, true, true, true, true, true, true, true, true, true, true, true, true, true, true, true, true, true, true, true, false, false] rfl rfl (any_of HT_.out (by kernel_rfl)) (fun _ _ _ h => h) (Or.inr ⟨by rfl, rfl⟩) ?_ ?_
      rotate_left
      ·simp only [Act.put, List.setIfInBounds_toArray, List.set_cons_zero, List.set_cons_succ, i64_w, i32_w]
       rfl
      refine pure_ (i := 20) (N := some 95) (v := undef) (a' := ?_) #[true, true, true, true, true, true, true, true, true, true, true, true, true, true, true, true, true, true, true, true, true, false] rfl rfl (any_of HT_.out (by kernel_rfl)) (fun _ _ _ h => h) (Or.inr ⟨by rfl, rfl⟩) ?_ ?_
      rotate_left
      ·simp only [Act.put, List.setIfInBounds_toArray, List.set_cons_zero, List.set_cons_succ, i64_w, i32_w]
       rfl
      refine pure_ (i := 21) (N := some 96) (v := ?_) (a' := ?_) #[true, true, true, true, true, true, true, true, true, true, true, true, true, true, true, true, true, true, true, true, true, true] rfl rfl (any_of HT_.out (by kernel_rfl)) (fun _ _ _ h => h) (Or.inl ⟨by rfl, ?_⟩) ?_ ?_
      rotate_left
      ·intro w'
       go_simp
       first | with_reducible rfl | rfl
      rotate_left
      ·simp only [Act.put, List.setIfInBounds_toArray, List.set_cons_zero, List.set_cons_succ, i64_w, i32_w]
       rfl
      refine done_ (done_of HT_.out (by kernel_rfl)) ?_
      try go_wp2
      go_ret2
      exact .inr ⟨HRX.out, by first | rfl | (simp; done), FE.out.hB⟩
     have r3_0 : decide (mi < 1) = false := decide_eq_false (by omega)
     have HR3 := Az0.mk (show 1 ≤ mi by omega)
     clear r3
     by_cases r4 : ji ≤ ma
     case pos =>
      have r4_0 : decide (ji ≤ ma) = true := decide_eq_true (by omega)
      have HRX := Az0.mk (show readOk R T = false by rw [HRB.out, not_all_rd _ R i HIL.out (by rw [HRI.out]; rw [decide_eq_false (show ¬ ma < ji by omega)]; simp only [Bool.false_and, Bool.and_false]), Bool.and_false])
      clear r4
      go_upto_region 15 with (fail)
      have n0_ := Az0.mk (FE.out.below (bD1_ (Below.refl _ _)))
      clear FE
      have FE := n0_
      clear n0_ hx
      refine start_ (n := 22) (S := fun w' => w'.cell? ⟨gb, 1, none⟩ = some (.slice At T.length ct)) (ds := []) #[false, false, false, false, false, false, false, false, false, false, false, false, false, false, false, false, false, false, false, false, false, false] (by kernel_rfl) rfl rfl ((bkC FE.out.bB 1).trans rfl) (fun hHeld => ?_); refine with_tabW read.tab15 read.bits15 (fun HT_ HW_ => ?_)
      generalize World.drew _ = wd at FE hHeld ⊢
      refine pure_ (i := 0) (N := some 75) (v := ?_) (a' := ?_) #[true, false, false, false, false, false, false, false, false, false, false, false, false, false, false, false, false, false, false, false, false, false] rfl rfl (any_of HT_.out (by kernel_rfl)) (fun _ _ _ h => h) (Or.inl ⟨by rfl, ?_⟩) ?_ ?_
      rotate_left
      ·intro w'
       go_simp
       first | with_reducible rfl | rfl
      rotate_left
      ·simp only [Act.put, List.setIfInBounds_toArray, List.set_cons_zero, List.set_cons_succ, i64_w, i32_w]
       rfl
      refine pure_ (i := 1) (N := some 76) (v := ?_) (a' := ?_) #[true, true, false, false, false, false, false, false, false, false, false, false, false, false, false, false, false, false, false, false, false, false] rfl rfl (any_of HT_.out (by kernel_rfl)) (fun _ _ _ h => h) (Or.inl ⟨by rfl, ?_⟩) ?_ ?_
      rotate_left
      ·intro w'
       go_simp
       first | with_reducible rfl | rfl
      rotate_left
      ·simp only [Act.put, List.setIfInBounds_toArray, List.set_cons_zero, List.set_cons_succ, i64_w, i32_w]
       rfl
      refine pure_ (i := 2) (N := some 77) (v := ?_) (a' := ?_) #[true, true, true, false, false, false, false, false, false, false, false, false, false, false, false, false, false, false, false, false, false, false] rfl rfl (any_of HT_.out (by kernel_rfl)) (fun _ _ _ h => h) (Or.inl ⟨by rfl, ?_⟩) ?_ ?_
      rotate_left
      ·intro w'
       go_simp
       first | with_reducible rfl | rfl
      rotate_left
      ·simp only [Act.put, List.setIfInBounds_toArray, List.set_cons_zero, List.set_cons_succ, i64_w, i32_w]
       rfl
      refine pure_ (i := 3) (N := some 78) (v := ?_) (a' := ?_) #[true, true, true, true, false, false, false, false, false, false, false, false, false, false, false, false, false, false, false, false, false, false] rfl rfl (any_of HT_.out (by kernel_rfl)) (fun _ _ _ h => h) (Or.inl ⟨by rfl, ?_⟩) ?_ ?_
      rotate_left
      ·intro w'
       go_simp
       first | with_reducible rfl | rfl
      rotate_left
      ·simp only [Act.put, List.setIfInBounds_toArray, List.set_cons_zero, List.set_cons_succ, i64_w, i32_w]
       rfl
      refine pure_ (i := 4) (N := some 79) (v := ?_) (a' := ?_) #[true, true, true, true, true, false, false, false, false, false, false, false, false, false, false, false, false, false, false, false, false, false] rfl rfl (any_of HT_.out (by kernel_rfl)) (fun _ _ _ h => h) (Or.inl ⟨by rfl, ?_⟩) ?_ ?_
      rotate_left
      ·intro w'
       go_simp
       first | with_reducible rfl | rfl
      rotate_left
      ·simp only [Act.put, List.setIfInBounds_toArray, List.set_cons_zero, List.set_cons_succ, i64_w, i32_w]
       rfl
      refine pure_ (i := 5) (N := some 80) (v := ?_) (a' := ?_) #[true, true, true, true, true, true, false, false, false, false, false, false, false, false, false, false, false, false, false, false, false, false] rfl rfl (any_of HT_.out (by kernel_rfl)) (fun _ _ _ h => h) (Or.inl ⟨by rfl, ?_⟩) ?_ ?_
      rotate_left
      ·intro w'
       go_simp
       first | with_reducible rfl | rfl
      rotate_left
      ·simp only [Act.put, List.setIfInBounds_toArray, List.set_cons_zero, List.set_cons_succ, i64_w, i32_w]
       rfl
      refine pure_ (i := 6) (N := some 81) (v := ?_) (a' := ?_) #[true, true, true, true, true, true, true, false, false, false, false, false, false, false, false, false, false, false, false, false, false, false] rfl rfl (any_of HT_.out (by kernel_rfl)) (fun _ _ _ h => h) (Or.inl ⟨by rfl, ?_⟩) ?_ ?_
      rotate_left
      ·intro w'
       go_simp
       first | with_reducible rfl | rfl
      rotate_left
      ·simp only [Act.put, List.setIfInBounds_toArray, List.set_cons_zero, List.set_cons_succ, i64_w, i32_w]
       rfl
      refine pure_ (i := 7) (N := some 82) (v := ?_) (a' := ?_) #[true, true, true, true, true, true, true, true, false, false, false, false, false, false, false, false, false, false, false, false, false, false] rfl rfl (any_of HT_.out (by kernel_rfl)) (fun _ _ _ h => h) (Or.inl ⟨by rfl, ?_⟩) ?_ ?_
      rotate_left
      ·intro w'
       go_simp
       first | with_reducible rfl | rfl
      rotate_left
      ·simp only [Act.put, List.setIfInBounds_toArray, List.set_cons_zero, List.set_cons_succ, i64_w, i32_w]
       rfl
      refine pure_ (i := 8) (N := some 83) (v := ?_) (a' := ?_) #[true, true, true, true, true, true, true, true, true, false, false, false, false, false, false, false, false, false, false, false, false, false] rfl rfl (any_of HT_.out (by kernel_rfl)) (fun _ _ _ h => h) (Or.inl ⟨by rfl, ?_⟩) ?_ ?_
      rotate_left
      ·intro w'
       go_simp
       first | with_reducible rfl | rfl
      rotate_left
      ·simp only [Act.put, List.setIfInBounds_toArray, List.set_cons_zero, List.set_cons_succ, i64_w, i32_w]
       rfl
      refine pure_ (i := 9) (N := some 84) (v := ?_) (a' := ?_) #[true, true, true, true, true, true, true, true, true, true, false, false, false, false, false, false, false, false, false, false, false, false] rfl rfl (any_of HT_.out (by kernel_rfl)) (fun _ _ _ h => h) (Or.inl ⟨by rfl, ?_⟩) ?_ ?_
      rotate_left
      ·intro w'
       go_simp
       first | with_reducible rfl | rfl
      rotate_left
      ·simp only [Act.put, List.setIfInBounds_toArray, List.set_cons_zero, List.set_cons_succ, i64_w, i32_w]
       rfl
      refine one_ (i := 10) (N := some 85) #[true, true, true, true, true, true, true, true, true, true, true, false, false, false, false, false, false, false, false, false, false, false] rfl rfl (one_of HT_.out (by kernel_rfl)) (by decide) (fun K hK => ?_)
      refine goes_ Try.func88 (by kernel_rfl) rfl #[.slice A0 l.length c0] (by rfl) rfl rfl (by (try simp only [List.map_toArray, List.map_cons, List.map_nil]); first | done | rfl) ?_
      refine (min_calls A0 c0 l _ (Kd.C_below HC.out FE.out.hB) (by have := HL1.out; omega) (by have := HL2.out; omega)).mono ?_
      rintro e w7 ⟨rfl, hb⟩
      rw [HMI.out]
      refine ⟨_, rfl, ?_⟩
      have n0_ := Az0.mk (FE.out.below hb)
      clear FE hb
      have FE := n0_
      clear n0_
      refine hK.out _ _ ((bkC FE.out.bB 1).trans rfl) (fun hHeld => ?_)
      clear hK K
      refine norm_ (a' := ?_) ?_ ?_
      rotate_left
      ·show Act.put _ (some 85) _ = _
       simp only [Act.put, List.setIfInBounds_toArray, List.set_cons_zero, List.set_cons_succ, i64_w, i32_w]
       rfl
      refine pure_ (i := 11) (N := some 86) (v := ?_) (a' := ?_) #[true, true, true, true, true, true, true, true, true, true, true, true, false, false, false, false, false, false, false, false, false, false] rfl rfl (any_of HT_.out (by kernel_rfl)) (fun _ _ _ h => h) (Or.inl ⟨by rfl, ?_⟩) ?_ ?_
      rotate_left
      ·intro w'
       go_simp
       first | with_reducible rfl | rfl
      rotate_left
      ·simp only [Act.put, List.setIfInBounds_toArray, List.set_cons_zero, List.set_cons_succ, i64_w, i32_w]
       rfl
      refine pure_ (i := 12) (N := some 87) (v := ?_) (a' := ?_) #[true, true, true, true, true, true, true, true, true, true, true, true, true, false, false, false, false, false, false, false, false, false] rfl rfl (any_of HT_.out (by kernel_rfl)) (fun _ _ _ h => h) (Or.inl ⟨by rfl, ?_⟩) ?_ ?_
      rotate_left
      ·intro w'
       go_simp
       first | with_reducible rfl | rfl
      rotate_left
      ·simp only [Act.put, List.setIfInBounds_toArray, List.set_cons_zero, List.set_cons_succ, i64_w, i32_w]
       rfl
      refine pure_ (i := 13) (N := some 88) (v := ?_) (a' := ?_) #[true, true, true, true, true, true, true, true, true, true, true, true, true, true, false, false, false, false, false, false, false, false] rfl rfl (any_of HT_.out (by kernel_rfl)) (fun _ _ _ h => h) (Or.inl ⟨by rfl, ?_⟩) ?_ ?_
      rotate_left
      ·intro w'
       go_simp
       first | with_reducible rfl | rfl
      rotate_left
      ·simp only [Act.put, List.setIfInBounds_toArray, List.set_cons_zero, List.set_cons_succ, i64_w, i32_w]
       rfl
      refine pure_ (i := 14) (N := some 89) (v := ?_) (a' := ?_) #[true, true, true, true, true, true, true, true, true, true, true, true, true, true, true, false, false, false, false, false, false, false] rfl rfl (any_of HT_.out (by kernel_rfl)) (fun _ _ _ h => h) (Or.inl ⟨by rfl, ?_⟩) ?_ ?_
      rotate_left
      ·intro w'
       go_simp
       first | with_reducible rfl | rfl
      rotate_left
      ·simp only [Act.put, List.setIfInBounds_toArray, List.set_cons_zero, List.set_cons_succ, i64_w, i32_w]
       rfl
      refine pure_ (i := 16) (N := some 91) (v := ?_) (a' := ?_) #[true, true, true, true, true, true, true, true, true, true, true, true, true, true, true, false, true, false, false, false, false, false] rfl rfl (any_of HT_.out (by kernel_rfl)) (fun _ _ _ h => h) (Or.inl ⟨by rfl, ?_⟩) ?_ ?_
      rotate_left
      ·intro w'
       go_simp
       first | with_reducible rfl | rfl
      rotate_left
      ·simp only [Act.put, List.setIfInBounds_toArray, List.set_cons_zero, List.set_cons_succ, i64_w, i32_w]
       rfl
      refine take_ (i := 17) (N := some 92) (v := ?_) (a' := ?_) #[true, true, true, true, true, true, true, true, true, true, true, true, true, true, true, false, true, true, false, false, false, false] rfl rfl (take_ofW HT_.out HW_.out (by kernel_rfl)) (fun _ _ _ h => h) (Or.inl ⟨by rfl, ?_⟩) hHeld ?_ ?_
      rotate_left
      ·rintro w' s0
       go_simp
       first | with_reducible rfl | rfl
      rotate_left
      ·simp only [Act.put, List.setIfInBounds_toArray, List.set_cons_zero, List.set_cons_succ, i64_w, i32_w]
       rfl
      refine pure_ (i := 18) (N := some 93) (v := ?_) (a' := ?_) #[true, true, true, true, true, true, true, true, true, true, true, true, true, true, true, false, true, true, true, false, false, false] rfl rfl (any_of HT_.out (by kernel_rfl)) (fun _ _ _ h => h) (Or.inl ⟨by rfl, ?_⟩) ?_ ?_
      rotate_left
      ·intro w'
       go_simp
       first | with_reducible rfl | rfl
      rotate_left
      ·simp only [Act.put, List.setIfInBounds_toArray, List.set_cons_zero, List.set_cons_succ, i64_w, i32_w]
       rfl
      refine pure_ (i := 19) (N := some 94) (v := ?_) (a' := ?_) #[true, true, true, true, true, true, true, true, true, true, true, true, true, true, true, false, true, true, true, true, false, false] rfl rfl (any_of HT_.out (by kernel_rfl)) (fun _ _ _ h => h) (Or.inl ⟨by rfl, ?_⟩) ?_ ?_
      rotate_left
      ·intro w'
       go_simp
       first | with_reducible rfl | rfl
      rotate_left
      ·simp only [Act.put, List.setIfInBounds_toArray, List.set_cons_zero, List.set_cons_succ, i64_w, i32_w]
       rfl
      refine one_ (i := 15) (N := some 90) #[true, true, true, true, true, true, true, true, true, true, true, true, true, true, true, true, true, true, true, true, false, false] rfl rfl (one_of HT_.out (by kernel_rfl)) (by decide) (fun K hK => ?_)
      refine goes_ Try.func89 (by kernel_rfl) rfl #[.slice A0 l.length c0] (by rfl) rfl rfl (by (try simp only [List.map_toArray, List.map_cons, List.map_nil]); first | done | rfl) ?_
      refine (max_calls A0 c0 l _ (Kd.C_below HC.out FE.out.hB) (by have := HL1.out; omega) (by have := HL2.out; omega)).mono ?_
      rintro e w8 ⟨rfl, hb⟩
      rw [HMA.out]
      refine ⟨_, rfl, ?_⟩
      have n0_ := Az0.mk (FE.out.below hb)
      clear FE hb
      have FE := n0_
      clear n0_
      refine hK.out _ _ ((bkC FE.out.bB 1).trans rfl) (fun hHeld => ?_)
      clear hK K
      refine norm_ (a' := ?_) ?_ ?_
      rotate_left
      ·show Act.put _ (some 90) _ = _
       simp only [Act.put, List.setIfInBounds_toArray, List.set_cons_zero, List.set_cons_succ, i64_w, i32_w]
       rfl
      refine pure_ (i := 20) (N := some 95) (v := ?_) (a' := ?_) #[true, true, true, true, true, true, true, true, true, true, true, true, true, true, true, true, true, true, true, true, true, false] rfl rfl (any_of HT_.out (by kernel_rfl)) (fun _ _ _ h => h) (Or.inl ⟨by rfl, ?_⟩) ?_ ?_
      rotate_left
      ·intro w'
       go_simp
       first | with_reducible rfl | rfl
      rotate_left
      ·simp only [Act.put, List.setIfInBounds_toArray, List.set_cons_zero, List.set_cons_succ, i64_w, i32_w]
       rfl
      refine pure_ (i := 21) (N := some 96) (v := ?_) (a' := ?_) #[true, true, true, true, true, true, true, true, true, true, true, true, true, true, true, true, true, true, true, true, true, true] rfl rfl (any_of HT_.out (by kernel_rfl)) (fun _ _ _ h => h) (Or.inl ⟨by rfl, ?_⟩) ?_ ?_
      rotate_left
      ·intro w'
       go_simp
       first | with_reducible rfl | rfl
      rotate_left
      ·simp only [Act.put, List.setIfInBounds_toArray, List.set_cons_zero, List.set_cons_succ, i64_w, i32_w]
       rfl
      refine done_ (done_of HT_.out (by kernel_rfl)) ?_
      try go_wp2
      go_ret2
      exact .inr ⟨HRX.out, by first | rfl | (simp; done), FE.out.hB⟩
     have r4_0 : decide (ji ≤ ma) = false := decide_eq_false (by omega)
     have HOK := Az0.mk (show routeOk T.length (rd_L12 R (i : Int)) = true by rw [HRI.out]; simp only [Bool.and_eq_true, decide_eq_true_eq]; exact ⟨⟨⟨HL1.out, HL2.out⟩, HR3.out⟩, by omega⟩)
     clear r4
     go_upto_region 15 with (fail)
     have n0_ := Az0.mk (FE.out.below (bD1_ (Below.refl _ _)))
     clear FE
     have FE := n0_
     clear n0_ hx
     refine start_ (n := 22) (S := fun w' => w'.cell? ⟨gb, 1, none⟩ = some (.slice At T.length ct)) (ds := []) #[false, false, false, false, false, false, false, false, false, false, false, false, false, false, false, false, false, false, false, false, false, false] (by kernel_rfl) rfl rfl ((bkC FE.out.bB 1).trans rfl) (fun hHeld => ?_); refine with_tabW read.tab15 read.bits15 (fun HT_ HW_ => ?_)
     generalize World.drew _ = wd at FE hHeld ⊢
     refine pure_ (i := 0) (N := some 75) (v := ?_) (a' := ?_) #[true, false, false, false, false, false, false, false, false, false, false, false, false, false, false, false, false, false, false, false, false, false] rfl rfl (any_of HT_.out (by kernel_rfl)) (fun _ _ _ h => h) (Or.inl ⟨by rfl, ?_⟩) ?_ ?_
     rotate_left
     ·intro w'
      go_simp
      first | with_reducible rfl | rfl
     rotate_left
     ·simp only [Act.put, List.setIfInBounds_toArray, List.set_cons_zero, List.set_cons_succ, i64_w, i32_w]
      rfl
     refine pure_ (i := 1) (N := some 76) (v := ?_) (a' := ?_) #[true, true, false, false, false, false, false, false, false, false, false, false, false, false, false, false, false, false, false, false, false, false] rfl rfl (any_of HT_.out (by kernel_rfl)) (fun _ _ _ h => h) (Or.inl ⟨by rfl, ?_⟩) ?_ ?_
     rotate_left
     ·intro w'
      go_simp
      first | with_reducible rfl | rfl
     rotate_left
     ·simp only [Act.put, List.setIfInBounds_toArray, List.set_cons_zero, List.set_cons_succ, i64_w, i32_w]
      rfl
     refine pure_ (i := 2) (N := some 77) (v := ?_) (a' := ?_) #[true, true, true, false, false, false, false, false, false, false, false, false, false, false, false, false, false, false, false, false, false, false] rfl rfl (any_of HT_.out (by kernel_rfl)) (fun _ _ _ h => h) (Or.inl ⟨by rfl, ?_⟩) ?_ ?_
     rotate_left
     ·intro w'
      go_simp
      first | with_reducible rfl | rfl
     rotate_left
     ·simp only [Act.put, List.setIfInBounds_toArray, List.set_cons_zero, List.set_cons_succ, i64_w, i32_w]
      rfl
     refine pure_ (i := 3) (N := some 78) (v := ?_) (a' := ?_) #[true, true, true, true, false, false, false, false, false, false, false, false, false, false, false, false, false, false, false, false, false, false] rfl rfl (any_of HT_.out (by kernel_rfl)) (fun _ _ _ h => h) (Or.inl ⟨by rfl, ?_⟩) ?_ ?_
     rotate_left
     ·intro w'
      go_simp
      first | with_reducible rfl | rfl
     rotate_left
     ·simp only [Act.put, List.setIfInBounds_toArray, List.set_cons_zero, List.set_cons_succ, i64_w, i32_w]
      rfl
     refine pure_ (i := 4) (N := some 79) (v := ?_) (a' := ?_) #[true, true, true, true, true, false, false, false, false, false, false, false, false, false, false, false, false, false, false, false, false, false] rfl rfl (any_of HT_.out (by kernel_rfl)) (fun _ _ _ h => h) (Or.inl ⟨by rfl, ?_⟩) ?_ ?_
     rotate_left
     ·intro w'
      go_simp
      first | with_reducible rfl | rfl
     rotate_left
     ·simp only [Act.put, List.setIfInBounds_toArray, List.set_cons_zero, List.set_cons_succ, i64_w, i32_w]
      rfl
     refine pure_ (i := 5) (N := some 80) (v := ?_) (a' := ?_) #[true, true, true, true, true, true, false, false, false, false, false, false, false, false, false, false, false, false, false, false, false, false] rfl rfl (any_of HT_.out (by kernel_rfl)) (fun _ _ _ h => h) (Or.inl ⟨by rfl, ?_⟩) ?_ ?_
     rotate_left
     ·intro w'
      go_simp
      first | with_reducible rfl | rfl
     rotate_left
     ·simp only [Act.put, List.setIfInBounds_toArray, List.set_cons_zero, List.set_cons_succ, i64_w, i32_w]
      rfl
     refine pure_ (i := 6) (N := some 81) (v := ?_) (a' := ?_) #[true, true, true, true, true, true, true, false, false, false, false, false, false, false, false, false, false, false, false, false, false, false] rfl rfl (any_of HT_.out (by kernel_rfl)) (fun _ _ _ h => h) (Or.inl ⟨by rfl, ?_⟩) ?_ ?_
     rotate_left
     ·intro w'
      go_simp
      first | with_reducible rfl | rfl
     rotate_left
     ·simp only [Act.put, List.setIfInBounds_toArray, List.set_cons_zero, List.set_cons_succ, i64_w, i32_w]
      rfl
     refine pure_ (i := 7) (N := some 82) (v := ?_) (a' := ?_) #[true, true, true, true, true, true, true, true, false, false, false, false, false, false, false, false, false, false, false, false, false, false] rfl rfl (any_of HT_.out (by kernel_rfl)) (fun _ _ _ h => h) (Or.inl ⟨by rfl, ?_⟩) ?_ ?_
     rotate_left
     ·intro w'
      go_simp
      first | with_reducible rfl | rfl
     rotate_left
     ·simp only [Act.put, List.setIfInBounds_toArray, List.set_cons_zero, List.set_cons_succ, i64_w, i32_w]
      rfl
     refine pure_ (i := 8) (N := some 83) (v := ?_) (a' := ?_) #[true, true, true, true, true, true, true, true, true, false, false, false, false, false, false, false, false, false, false, false, false, false] rfl rfl (any_of HT_.out (by kernel_rfl)) (fun _ _ _ h => h) (Or.inl ⟨by rfl, ?_⟩) ?_ ?_
     rotate_left
     ·intro w'
      go_simp
      first | with_reducible rfl | rfl
     rotate_left
     ·simp only [Act.put, List.setIfInBounds_toArray, List.set_cons_zero, List.set_cons_succ, i64_w, i32_w]
      rfl
     refine pure_ (i := 9) (N := some 84) (v := ?_) (a' := ?_) #[true, true, true, true, true, true, true, true, true, true, false, false, false, false, false, false, false, false, false, false, false, false] rfl rfl (any_of HT_.out (by kernel_rfl)) (fun _ _ _ h => h) (Or.inl ⟨by rfl, ?_⟩) ?_ ?_
     rotate_left
     ·intro w'
      go_simp
      first | with_reducible rfl | rfl
     rotate_left
     ·simp only [Act.put, List.setIfInBounds_toArray, List.set_cons_zero, List.set_cons_succ, i64_w, i32_w]
      rfl
     refine one_ (i := 10) (N := some 85) #[true, true, true, true, true, true, true, true, true, true, true, false, false, false, false, false, false, false, false, false, false, false] rfl rfl (one_of HT_.out (by kernel_rfl)) (by decide) (fun K hK => ?_)
     refine goes_ Try.func88 (by kernel_rfl) rfl #[.slice A0 l.length c0] (by rfl) rfl rfl (by (try simp only [List.map_toArray, List.map_cons, List.map_nil]); first | done | rfl) ?_
     refine (min_calls A0 c0 l _ (Kd.C_below HC.out FE.out.hB) (by have := HL1.out; omega) (by have := HL2.out; omega)).mono ?_
     rintro e w7 ⟨rfl, hb⟩
     rw [HMI.out]
     refine ⟨_, rfl, ?_⟩
     have n0_ := Az0.mk (FE.out.below hb)
     clear FE hb
     have FE := n0_
     clear n0_
     refine hK.out _ _ ((bkC FE.out.bB 1).trans rfl) (fun hHeld => ?_)
     clear hK K
     refine norm_ (a' := ?_) ?_ ?_
     rotate_left
     ·show Act.put _ (some 85) _ = _
      simp only [Act.put, List.setIfInBounds_toArray, List.set_cons_zero, List.set_cons_succ, i64_w, i32_w]
      rfl
     refine pure_ (i := 11) (N := some 86) (v := ?_) (a' := ?_) #[true, true, true, true, true, true, true, true, true, true, true, true, false, false, false, false, false, false, false, false, false, false] rfl rfl (any_of HT_.out (by kernel_rfl)) (fun _ _ _ h => h) (Or.inl ⟨by rfl, ?_⟩) ?_ ?_
     rotate_left
     ·intro w'
      go_simp
      first | with_reducible rfl | rfl
     rotate_left
     ·simp only [Act.put, List.setIfInBounds_toArray, List.set_cons_zero, List.set_cons_succ, i64_w, i32_w]
      rfl
     refine pure_ (i := 12) (N := some 87) (v := ?_) (a' := ?_) #[true, true, true, true, true, true, true, true, true, true, true, true, true, false, false, false, false, false, false, false, false, false] rfl rfl (any_of HT_.out (by kernel_rfl)) (fun _ _ _ h => h) (Or.inl ⟨by rfl, ?_⟩) ?_ ?_
     rotate_left
     ·intro w'
      go_simp
      first | with_reducible rfl | rfl
     rotate_left
     ·simp only [Act.put, List.setIfInBounds_toArray, List.set_cons_zero, List.set_cons_succ, i64_w, i32_w]
      rfl
     refine pure_ (i := 13) (N := some 88) (v := ?_) (a' := ?_) #[true, true, true, true, true, true, true, true, true, true, true, true, true, true, false, false, false, false, false, false, false, false] rfl rfl (any_of HT_.out (by kernel_rfl)) (fun _ _ _ h => h) (Or.inl ⟨by rfl, ?_⟩) ?_ ?_
     rotate_left
     ·intro w'
      go_simp
      first | with_reducible rfl | rfl
     rotate_left
     ·simp only [Act.put, List.setIfInBounds_toArray, List.set_cons_zero, List.set_cons_succ, i64_w, i32_w]
      rfl
     refine pure_ (i := 14) (N := some 89) (v := ?_) (a' := ?_) #[true, true, true, true, true, true, true, true, true, true, true, true, true, true, true, false, false, false, false, false, false, false] rfl rfl (any_of HT_.out (by kernel_rfl)) (fun _ _ _ h => h) (Or.inl ⟨by rfl, ?_⟩) ?_ ?_
     rotate_left
     ·intro w'
      go_simp
      first | with_reducible rfl | rfl
     rotate_left
     ·simp only [Act.put, List.setIfInBounds_toArray, List.set_cons_zero, List.set_cons_succ, i64_w, i32_w]
      rfl
     refine pure_ (i := 16) (N := some 91) (v := ?_) (a' := ?_) #[true, true, true, true, true, true, true, true, true, true, true, true, true, true, true, false, true, false, false, false, false, false] rfl rfl (any_of HT_.out (by kernel_rfl)) (fun _ _ _ h => h) (Or.inl ⟨by rfl, ?_⟩) ?_ ?_
     rotate_left
     ·intro w'
      go_simp
      first | with_reducible rfl | rfl
     rotate_left
     ·simp only [Act.put, List.setIfInBounds_toArray, List.set_cons_zero, List.set_cons_succ, i64_w, i32_w]
      rfl
     refine take_ (i := 17) (N := some 92) (v := ?_) (a' := ?_) #[true, true, true, true, true, true, true, true, true, true, true, true, true, true, true, false, true, true, false, false, false, false] rfl rfl (take_ofW HT_.out HW_.out (by kernel_rfl)) (fun _ _ _ h => h) (Or.inl ⟨by rfl, ?_⟩) hHeld ?_ ?_
     rotate_left
     ·rintro w' s0
      go_simp
      first | with_reducible rfl | rfl
     rotate_left
     ·simp only [Act.put, List.setIfInBounds_toArray, List.set_cons_zero, List.set_cons_succ, i64_w, i32_w]
      rfl
     refine pure_ (i := 18) (N := some 93) (v := ?_) (a' := ?_) #[true, true, true, true, true, true, true, true, true, true, true, true, true, true, true, false, true, true, true, false, false, false] rfl rfl (any_of HT_.out (by kernel_rfl)) (fun _ _ _ h => h) (Or.inl ⟨by rfl, ?_⟩) ?_ ?_
     rotate_left
     ·intro w'
      go_simp
      first | with_reducible rfl | rfl
     rotate_left
     ·simp only [Act.put, List.setIfInBounds_toArray, List.set_cons_zero, List.set_cons_succ, i64_w, i32_w]
      rfl
     refine pure_ (i := 19) (N := some 94) (v := ?_) (a' := ?_) #[true, true, true, true, true, true, true, true, true, true, true, true, true, true, true, false, true, true, true, true, false, false] rfl rfl (any_of HT_.out (by kernel_rfl)) (fun _ _ _ h => h) (Or.inl ⟨by rfl, ?_⟩) ?_ ?_
     rotate_left
     ·intro w'
      go_simp
      first | with_reducible rfl | rfl
     rotate_left
     ·simp only [Act.put, List.setIfInBounds_toArray, List.set_cons_zero, List.set_cons_succ, i64_w, i32_w]
      rfl
     refine one_ (i := 15) (N := some 90) #[true, true, true, true, true, true, true, true, true, true, true, true, true, true, true, true, true, true, true, true, false, false] rfl rfl (one_of HT_.out (by kernel_rfl)) (by decide) (fun K hK => ?_)
     refine goes_ Try.func89 (by kernel_rfl) rfl #[.slice A0 l.length c0] (by rfl) rfl rfl (by (try simp only [List.map_toArray, List.map_cons, List.map_nil]); first | done | rfl) ?_
     refine (max_calls A0 c0 l _ (Kd.C_below HC.out FE.out.hB) (by have := HL1.out; omega) (by have := HL2.out; omega)).mono ?_
     rintro e w8 ⟨rfl, hb⟩
     rw [HMA.out]
     refine ⟨_, rfl, ?_⟩
     have n0_ := Az0.mk (FE.out.below hb)
     clear FE hb
     have FE := n0_
     clear n0_
     refine hK.out _ _ ((bkC FE.out.bB 1).trans rfl) (fun hHeld => ?_)
     clear hK K
     refine norm_ (a' := ?_) ?_ ?_
     rotate_left
     ·show Act.put _ (some 90) _ = _
      simp only [Act.put, List.setIfInBounds_toArray, List.set_cons_zero, List.set_cons_succ, i64_w, i32_w]
      rfl
     refine pure_ (i := 20) (N := some 95) (v := ?_) (a' := ?_) #[true, true, true, true, true, true, true, true, true, true, true, true, true, true, true, true, true, true, true, true, true, false] rfl rfl (any_of HT_.out (by kernel_rfl)) (fun _ _ _ h => h) (Or.inl ⟨by rfl, ?_⟩) ?_ ?_
     rotate_left
     ·intro w'
      go_simp
      first | with_reducible rfl | rfl
     rotate_left
     ·simp only [Act.put, List.setIfInBounds_toArray, List.set_cons_zero, List.set_cons_succ, i64_w, i32_w]
      rfl
     refine pure_ (i := 21) (N := some 96) (v := ?_) (a' := ?_) #[true, true, true, true, true, true, true, true, true, true, true, true, true, true, true, true, true, true, true, true, true, true] rfl rfl (any_of HT_.out (by kernel_rfl)) (fun _ _ _ h => h) (Or.inl ⟨by rfl, ?_⟩) ?_ ?_
     rotate_left
     ·intro w'
      go_simp
      first | with_reducible rfl | rfl
     rotate_left
     ·simp only [Act.put, List.setIfInBounds_toArray, List.set_cons_zero, List.set_cons_succ, i64_w, i32_w]
      rfl
     refine done_ (done_of HT_.out (by kernel_rfl)) ?_
     try go_wp2
     go_roundg k1
     case measure => omega
     case rel => exact ⟨i + 1, val_succ i (by have := HIL.out; have := HN.out; omega), ⟨by have := HI.out; omega⟩, ⟨fun a ha => by rcases Nat.lt_or_ge a i with h | h; exact HA.out a h; (have : a = i := by omega); rw [this]; exact HOK.out⟩, FE⟩
  | succ k1 =>
   have hj0 : (0 : Int) ≤ (j : Int) := Int.natCast_nonneg _
   have hj1 : (j : Int) < (T.length : Int) := by have := HJ.out; omega
   have c5b : decide ((j : Int) < (T.length : Int)) = true := decide_eq_true hj1
   have c5b2 : decide (j < T.length) = true := decide_eq_true (by omega)
   have hj2 : (j < T.length) = True := eq_true (by omega)
   obtain ⟨ad, A0, c0, e, hx, hc0, hC⟩ := at_L12 HRT.out (j : Int) hj0 hj1
   cases e
   simp only [Int.toNat_natCast] at hx
   replace hx := (FE.out.hB.cell (World.block_lt_of_cell? w _ hx)).trans hx
   obtain ⟨t, ht⟩ : ∃ t, rd_L12 T (j : Int) = t := ⟨_, rfl⟩
   have HTT := Az0.mk ht
   rw [ht] at hx hc0 hC
   clear ht
   have HC0 := Az0.mk hc0
   have HC := Az0.mk hC
   clear hc0 hC
   replace hj0 := eq_true hj0
   replace hj1 := eq_true hj1
   have HJL := Az0.mk (show j < T.length by have := HJ.out; omega)
   by_cases t1 : t.length = R.length
   case neg =>
    have t1b : ((t.length : Int) == (R.length : Int)) = false := beq_eq_false_iff_ne.mpr (by omega)
    have t1c : ((t.length : Int) != (R.length : Int)) = true := bne_iff_ne.mpr (by omega)
    have t1d : (t.length == R.length) = false := beq_eq_false_iff_ne.mpr t1
    have t1e : (t.length != R.length) = true := bne_iff_ne.mpr t1
    have t1f : decide (t.length = R.length) = false := decide_eq_false t1
    have HRX := Az0.mk (show readOk R T = false by rw [HRB.out, not_all_rd _ T j HJL.out (by rw [HTT.out]; unfold tollOk; rw [decide_eq_false t1]; simp only [Bool.false_and]), Bool.false_and])
    clear t1
    go_wp2
    go_ret2
    exact .inr ⟨HRX.out, by first | rfl | (simp; done), FE.out.hB⟩
   have t1b : ((t.length : Int) == (R.length : Int)) = true := beq_iff_eq.mpr (by omega)
   have t1c : ((t.length : Int) != (R.length : Int)) = false := bne_eq_false_iff_eq.mpr (by omega)
   have t1d : (t.length == R.length) = true := beq_iff_eq.mpr t1
   have t1e : (t.length != R.length) = false := bne_eq_false_iff_eq.mpr t1
   have t1f : decide (t.length = R.length) = true := decide_eq_true t1
   have HT1 := Az0.mk t1
   clear t1
   obtain ⟨mi, hmi⟩ : ∃ mi, minU t (t.length - 1) = mi := ⟨_, rfl⟩
   have HMI := Az0.mk hmi
   clear hmi
   obtain ⟨ma, hma⟩ : ∃ ma, maxU t (t.length - 1) = ma := ⟨_, rfl⟩
   have HMA := Az0.mk hma
   clear hma
   by_cases t2 : mi < 0
   case pos =>
    have t2b : decide (mi < 0) = true := decide_eq_true t2
    have HRX := Az0.mk (show readOk R T = false by rw [HRB.out, not_all_rd _ T j HJL.out (by rw [HTT.out]; unfold tollOk; rw [HMI.out, decide_eq_false (show ¬ 0 ≤ mi by omega)]; simp only [Bool.false_and, Bool.and_false]), Bool.false_and])
    clear t2
    go_wp2_with (first | (go_at_call 88; ((refine (min_calls A0 c0 t _ (Kd.C_below HC.out FE.out.hB) (by have := HT1.out; have := HN.out; omega) (by have := HT1.out; have := HN.out; omega)).mono ?_); rintro e w5 ⟨rfl, hb⟩; rw [HMI.out]; have n0_ := Az0.mk (FE.out.below hb); clear FE hb hb_0 hb_1 hq_0; have FE := n0_; clear n0_; have hb_0 : w5.cell? ⟨gb, 0, none⟩ = some (.slice Ar R.length cr) := (bkC FE.out.bB 0).trans rfl; have hb_1 : w5.cell? ⟨gb, 1, none⟩ = some (.slice (some ad) T.length ct) := (bkC FE.out.bB 1).trans rfl; have hq_0 : w5.cell? ⟨q, 0, none⟩ = some (.pointer (some ⟨g, 0, none⟩)) := (bkC FE.out.qB 0).trans rfl)))
    go_ret2
    exact .inr ⟨HRX.out, by first | rfl | (simp; done), FE.out.hB⟩
   have t2b : decide (mi < 0) = false := decide_eq_false t2
   have HT2 := Az0.mk (show 0 ≤ mi by omega)
   clear t2
   by_cases t3 : 1000 < ma
   case pos =>
    have t3b : decide (1000 < ma) = true := decide_eq_true t3
    have HRX := Az0.mk (show readOk R T = false by rw [HRB.out, not_all_rd _ T j HJL.out (by rw [HTT.out]; unfold tollOk; rw [HMA.out, decide_eq_false (show ¬ ma ≤ 1000 by omega)]; simp only [Bool.and_false]), Bool.false_and])
    clear t3
    go_wp2_with (first | (go_at_call 88; ((refine (min_calls A0 c0 t _ (Kd.C_below HC.out FE.out.hB) (by have := HT1.out; have := HN.out; omega) (by have := HT1.out; have := HN.out; omega)).mono ?_); rintro e w5 ⟨rfl, hb⟩; rw [HMI.out]; have n0_ := Az0.mk (FE.out.below hb); clear FE hb hb_0 hb_1 hq_0; have FE := n0_; clear n0_; have hb_0 : w5.cell? ⟨gb, 0, none⟩ = some (.slice Ar R.length cr) := (bkC FE.out.bB 0).trans rfl; have hb_1 : w5.cell? ⟨gb, 1, none⟩ = some (.slice (some ad) T.length ct) := (bkC FE.out.bB 1).trans rfl; have hq_0 : w5.cell? ⟨q, 0, none⟩ = some (.pointer (some ⟨g, 0, none⟩)) := (bkC FE.out.qB 0).trans rfl)) | (go_at_call 89; ((refine (max_calls A0 c0 t _ (Kd.C_below HC.out FE.out.hB) (by have := HT1.out; have := HN.out; omega) (by have := HT1.out; have := HN.out; omega)).mono ?_); rintro e w6 ⟨rfl, hb⟩; rw [HMA.out]; have n0_ := Az0.mk (FE.out.below hb); clear FE hb hb_0 hb_1 hq_0; have FE := n0_; clear n0_; have hb_0 : w6.cell? ⟨gb, 0, none⟩ = some (.slice Ar R.length cr) := (bkC FE.out.bB 0).trans rfl; have hb_1 : w6.cell? ⟨gb, 1, none⟩ = some (.slice (some ad) T.length ct) := (bkC FE.out.bB 1).trans rfl; have hq_0 : w6.cell? ⟨q, 0, none⟩ = some (.pointer (some ⟨g, 0, none⟩)) := (bkC FE.out.qB 0).trans rfl)))
    go_ret2
    exact .inr ⟨HRX.out, by first | rfl | (simp; done), FE.out.hB⟩
   have t3b : decide (1000 < ma) = false := decide_eq_false t3
   have HOK := Az0.mk (show tollOk R.length (rd_L12 T (j : Int)) = true by rw [HTT.out]; unfold tollOk; rw [HMI.out, HMA.out]; simp only [Bool.and_eq_true, decide_eq_true_eq]; exact ⟨⟨HT1.out, HT2.out⟩, by omega⟩)
   clear t3
   go_upto_region 10 with (first | (go_at_call 88; ((refine (min_calls A0 c0 t _ (Kd.C_below HC.out FE.out.hB) (by have := HT1.out; have := HN.out; omega) (by have := HT1.out; have := HN.out; omega)).mono ?_); rintro e w5 ⟨rfl, hb⟩; rw [HMI.out]; have n0_ := Az0.mk (FE.out.below hb); clear FE hb hb_0 hb_1 hq_0; have FE := n0_; clear n0_; have hb_0 : w5.cell? ⟨gb, 0, none⟩ = some (.slice Ar R.length cr) := (bkC FE.out.bB 0).trans rfl; have hb_1 : w5.cell? ⟨gb, 1, none⟩ = some (.slice (some ad) T.length ct) := (bkC FE.out.bB 1).trans rfl; have hq_0 : w5.cell? ⟨q, 0, none⟩ = some (.pointer (some ⟨g, 0, none⟩)) := (bkC FE.out.qB 0).trans rfl)) | (go_at_call 89; ((refine (max_calls A0 c0 t _ (Kd.C_below HC.out FE.out.hB) (by have := HT1.out; have := HN.out; omega) (by have := HT1.out; have := HN.out; omega)).mono ?_); rintro e w6 ⟨rfl, hb⟩; rw [HMA.out]; have n0_ := Az0.mk (FE.out.below hb); clear FE hb hb_0 hb_1 hq_0; have FE := n0_; clear n0_; have hb_0 : w6.cell? ⟨gb, 0, none⟩ = some (.slice Ar R.length cr) := (bkC FE.out.bB 0).trans rfl; have hb_1 : w6.cell? ⟨gb, 1, none⟩ = some (.slice (some ad) T.length ct) := (bkC FE.out.bB 1).trans rfl; have hq_0 : w6.cell? ⟨q, 0, none⟩ = some (.pointer (some ⟨g, 0, none⟩)) := (bkC FE.out.qB 0).trans rfl)))
   obtain ⟨Av, cv, hvv⟩ := Kd.R_slice FE.out.hL
   subst hvv
   have n0_ := Az0.mk (FE.out.below (bD1_ (Below.refl _ _)))
   clear FE hb_0 hb_1 hq_0 hx
   have FE := n0_
   clear n0_
   refine start_ (n := 12) (S := fun w' => w'.cell? ⟨q, 0, none⟩ = some (.pointer (some ⟨g, 0, none⟩)) ∧ w'.cell? ⟨g, 1, none⟩ = some (.slice Av vals.length cv)) (ds := [11]) #[false, false, false, false, false, false, false, false, false, false, false, false] (by kernel_rfl) rfl rfl ⟨(bkC FE.out.qB 0).trans rfl, (bkC FE.out.gB 1).trans rfl⟩ (fun hHeld => ?_); refine with_tabW read.tab10 read.bits10 (fun HT_ HW_ => ?_)
   generalize w6.drew = wd at FE hHeld ⊢
   refine pure_ (i := 5) (N := some 61) (v := ?_) (a' := ?_) #[false, false, false, false, false, true, false, false, false, false, false, false] rfl rfl (any_of HT_.out (by kernel_rfl)) (fun _ _ _ h => h) (Or.inl ⟨by rfl, ?_⟩) ?_ ?_
   rotate_left
   ·intro w'
    go_simp
    first | with_reducible rfl | rfl
   rotate_left
   ·simp only [Act.put, List.setIfInBounds_toArray, List.set_cons_zero, List.set_cons_succ, i64_w, i32_w]
    rfl
   refine pure_ (i := 6) (N := some 62) (v := ?_) (a' := ?_) #[false, false, false, false, false, true, true, false, false, false, false, false] rfl rfl (any_of HT_.out (by kernel_rfl)) (fun _ _ _ h => h) (Or.inl ⟨by rfl, ?_⟩) ?_ ?_
   rotate_left
   ·intro w'
    go_simp
    first | with_reducible rfl | rfl
   rotate_left
   ·simp only [Act.put, List.setIfInBounds_toArray, List.set_cons_zero, List.set_cons_succ, i64_w, i32_w]
    rfl
   refine take_ (i := 0) (N := some 56) (v := ?_) (a' := ?_) #[true, false, false, false, false, true, true, false, false, false, false, false] rfl rfl (take_ofW HT_.out HW_.out (by kernel_rfl)) (fun _ _ _ h => h) (Or.inl ⟨by rfl, ?_⟩) hHeld ?_ ?_
   rotate_left
   ·rintro w' ⟨s0, s1⟩
    go_simp
    first | with_reducible rfl | rfl
   rotate_left
   ·simp only [Act.put, List.setIfInBounds_toArray, List.set_cons_zero, List.set_cons_succ, i64_w, i32_w]
    rfl
   refine take_ (i := 1) (N := some 57) (v := ?_) (a' := ?_) #[true, true, false, false, false, true, true, false, false, false, false, false] rfl rfl (take_ofW HT_.out HW_.out (by kernel_rfl)) (fun _ _ _ h => h) (Or.inl ⟨by rfl, ?_⟩) hHeld ?_ ?_
   rotate_left
   ·rintro w' ⟨s0, s1⟩
    go_simp
    first | with_reducible rfl | rfl
   rotate_left
   ·simp only [Act.put, List.setIfInBounds_toArray, List.set_cons_zero, List.set_cons_succ, i64_w, i32_w]
    rfl
   refine pure_ (i := 2) (N := some 58) (v := ?_) (a' := ?_) #[true, true, true, false, false, true, true, false, false, false, false, false] rfl rfl (any_of HT_.out (by kernel_rfl)) (fun _ _ _ h => h) (Or.inl ⟨by rfl, ?_⟩) ?_ ?_
   rotate_left
   ·intro w'
    go_simp
    first | with_reducible rfl | rfl
   rotate_left
   ·simp only [Act.put, List.setIfInBounds_toArray, List.set_cons_zero, List.set_cons_succ, i64_w, i32_w]
    rfl
   refine pure_ (i := 3) (N := some 59) (v := ?_) (a' := ?_) #[true, true, true, true, false, true, true, false, false, false, false, false] rfl rfl (any_of HT_.out (by kernel_rfl)) (fun _ _ _ h => h) (Or.inl ⟨by rfl, ?_⟩) ?_ ?_
   rotate_left
   ·intro w'
    go_simp
    first | with_reducible rfl | rfl
   rotate_left
   ·simp only [Act.put, List.setIfInBounds_toArray, List.set_cons_zero, List.set_cons_succ, i64_w, i32_w]
    rfl
   refine take_ (i := 4) (N := some 60) (v := ?_) (a' := ?_) #[true, true, true, true, true, true, true, false, false, false, false, false] rfl rfl (take_ofW HT_.out HW_.out (by kernel_rfl)) (fun _ _ _ h => h) (Or.inl ⟨by rfl, ?_⟩) hHeld ?_ ?_
   rotate_left
   ·rintro w' ⟨s0, s1⟩
    go_simp
    first | with_reducible rfl | rfl
   rotate_left
   ·simp only [Act.put, List.setIfInBounds_toArray, List.set_cons_zero, List.set_cons_succ, i64_w, i32_w]
    rfl
   refine one_ (i := 7) (N := some 63) #[true, true, true, true, true, true, true, true, false, false, false, false] rfl rfl (one_of HT_.out (by kernel_rfl)) (by decide) (fun K hK => ?_)
   refine value_ (w1 := ?_) (v := ?_) (by rfl) rfl ?_ ?_
   rotate_left 2
   ·go_simp
    constructor
    ·rfl
    ·rfl
   refine hK.out _ _ ⟨(bkC (blk_alloc FE.out.qB _) 0).trans rfl, (bkC (blk_alloc FE.out.gB _) 1).trans rfl⟩ (fun hHeld => ?_)
   clear hK K
   refine norm_ (a' := ?_) ?_ ?_
   rotate_left
   ·show Act.put _ (some 63) _ = _
    simp only [Act.put, List.setIfInBounds_toArray, List.set_cons_zero, List.set_cons_succ, i64_w, i32_w]
    rfl
   refine one_ (i := 8) (N := some 64) #[true, true, true, true, true, true, true, true, true, false, false, false] rfl rfl (one_of HT_.out (by kernel_rfl)) (by decide) (fun K hK => ?_)
   refine Kd.R_append_step (Kd.raw 1) (w0 := w) w.heap.size (by rfl) (.tmp 60) (.tmp 63) 94 105 .nilIface 16 rfl Try.underlying94 info105 rfl (by decide) (by omega) (.slice Av vals.length cv) vals [.iface 118 (.slice A0 t.length c0)] [.iface 118 (.slice A0 t.length c0)] (fun _ => True) (fun _ => False) rfl rfl ?aP (fun _ hk => hk.elim) ?aF ?aO ?aB ?aS ?aL ?_
   (case aP => exact ⟨rfl, rfl, fun u hu => by rw [List.mem_singleton.1 hu]; rfl⟩)
   (case aB => exact FE.out.hB)
   (case aF => exact (fun _ _ => trivial))
   (case aO => exact FE.out.hL)
   (case aS => exact FE.out.hB.size)
   (case aL => have := FE.out.len; have := HJL.out; have := HN.out; omega)
   intro v9 w9 ho hb hg hat
   have hm := FE.out.more (A := A0) (c := c0) hb hg (by rw [HTT.out]; exact ho) (by rw [HTT.out]; exact HC0.out) (by rw [HTT.out]; exact HC.out) HOK.out
   rw [HTT.out] at hm
   obtain ⟨vs2, hv2⟩ : ∃ vs2 : List (List Value), vals ++ [[.iface 118 (.slice A0 t.length c0)]] = vs2 := ⟨_, rfl⟩
   rw [hv2] at ho hm
   clear hv2
   have hqB := blk_grown FE.out.qB hg (Kd.R_ne FE.out.hL FE.out.qB (by decide))
   obtain ⟨Ao, co, eo⟩ := Kd.R_slice ho
   subst eo
   have HM1 := Az0.mk hm.1
   have HM2 := Az0.mk hm.2
   have HQ9 := Az0.mk hqB
   clear FE hm hqB ho hb hg hat
   refine hK.out _ _ ⟨(bkC HQ9.out 0).trans rfl, (bkC HM1.out 1).trans rfl⟩ (fun hHeld => ?_)
   clear hK K
   refine norm_ (a' := ?_) ?_ ?_
   rotate_left
   ·show Act.put _ (some 64) _ = _
    simp only [Act.put, List.setIfInBounds_toArray, List.set_cons_zero, List.set_cons_succ, i64_w, i32_w]
    rfl
   refine pure_ (i := 9) (N := some 65) (v := ?_) (a' := ?_) #[true, true, true, true, true, true, true, true, true, true, false, false] rfl rfl (any_of HT_.out (by kernel_rfl)) (fun _ _ _ h => h) (Or.inl ⟨by rfl, ?_⟩) ?_ ?_
   rotate_left
   ·intro w'
    go_simp
    first | with_reducible rfl | rfl
   rotate_left
   ·simp only [Act.put, List.setIfInBounds_toArray, List.set_cons_zero, List.set_cons_succ, i64_w, i32_w]
    rfl
   refine pure_ (i := 10) (N := some 66) (v := ?_) (a' := ?_) #[true, true, true, true, true, true, true, true, true, true, true, false] rfl rfl (any_of HT_.out (by kernel_rfl)) (fun _ _ _ h => h) (Or.inl ⟨by rfl, ?_⟩) ?_ ?_
   rotate_left
   ·intro w'
    go_simp
    first | with_reducible rfl | rfl
   rotate_left
   ·simp only [Act.put, List.setIfInBounds_toArray, List.set_cons_zero, List.set_cons_succ, i64_w, i32_w]
    rfl
   refine last_ (i := 11) (N := none) #[true, true, true, true, true, true, true, true, true, true, true, true] rfl rfl (one_of HT_.out (by kernel_rfl)) (by decide) (fun K hK => ?_)
   have hs := (bkC HM1.out 1).trans rfl
   have hfs := blk_frozen HM1.out 1
   refine skip_ (w1 := ?_) (by rfl) rfl ?_ ?_
   rotate_left
   ·go_simp
    rfl
   refine hK.out _ _ ?_
   clear hK K
   refine done_ (done_of HT_.out (by kernel_rfl)) ?_
   try go_wp2
   go_roundg k1
   case measure => omega
   case rel => exact ⟨j + 1, _, _, val_succ j (by have := HJL.out; have := HN.out; omega), ⟨by have := HJ.out; omega⟩, HM2⟩
end Go.Proofs.Ytjgbdicbdlollaa.B
namespace Go.Proofs.Ytjgbdicbdlollaa.B
open Go.RowKit Go.Proofs.YtjgbdicbdlollaaW.PrintWords Go.Proofs.YtjgbdicbdlollaaW.PrintLast Go.Proofs.YtjgbdicbdlollaaW.PrintMore
set_option linter.unusedVariables false
set_option linter.unusedSimpArgs false
/-- A choice that played takes. -/
def choiceOk (R : List (List Int)) (c : List Int) : Bool := decide (c.length = R.length) && (List.range c.length).all fun i : Nat => decide (0 ≤ rd c (i : Int)) && decide (rd c (i : Int) < ((rd_L12 R (i : Int)).length : Int))
def playOk (R T : List (List Int)) (c : List Int) : Bool := readOk R T && choiceOk R c
theorem read_ok (Ar : Option Addr) (cr : Nat) (R : List (List Int)) (At : Option Addr) (ct : Nat) (T : List (List Int)) (w : World) (hrR : Kd.C (Kd.slice 3 (Kd.int .i64)) w Ar R.length R) (hcR : R.length ≤ cr) (hrT : Kd.C (Kd.slice 3 (Kd.int .i64)) w At T.length T) (hcT : T.length ≤ ct) (h : readOk R T = true) :
    Calls Try.prog 58 #[.agg #[.slice Ar R.length cr, .slice At T.length ct]] w fun e w' => ∃ g, e = .returned (.tuple #[.pointer (some ⟨g, 0, none⟩), .bool true]) ∧ w.heap.size ≤ g ∧ Gm w' g R T ∧ Below w.heap.size w w' := by
  refine (read_calls Ar cr R At ct T w hrR hcR hrT hcT).mono fun e w' hh => ?_
  rcases hh with ⟨_, hh⟩ | ⟨h1, _⟩
  · exact hh
  · rw [h] at h1; cases h1
theorem read_err (Ar : Option Addr) (cr : Nat) (R : List (List Int)) (At : Option Addr) (ct : Nat) (T : List (List Int)) (w : World) (hrR : Kd.C (Kd.slice 3 (Kd.int .i64)) w Ar R.length R) (hcR : R.length ≤ cr) (hrT : Kd.C (Kd.slice 3 (Kd.int .i64)) w At T.length T) (hcT : T.length ≤ ct) (h : readOk R T = false) :
    Calls Try.prog 58 #[.agg #[.slice Ar R.length cr, .slice At T.length ct]] w fun e w' => e = .returned (.tuple #[.pointer none, .bool false]) ∧ Below w.heap.size w w' := by
  refine (read_calls Ar cr R At ct T w hrR hcR hrT hcT).mono fun e w' hh => ?_
  rcases hh with ⟨h1, _⟩ | ⟨_, hh⟩
  · rw [h] at h1; cases h1
  · exact hh
set_option maxHeartbeats 8000000 in
set_option maxRecDepth 100000 in
theorem played_calls (Ar : Option Addr) (cr : Nat) (R : List (List Int)) (At : Option Addr) (ct : Nat) (T : List (List Int)) (A : Option Addr) (c : Nat) (l : List Int) (w : World) (hrR : Kd.C (Kd.slice 3 (Kd.int .i64)) w Ar R.length R) (hcR : R.length ≤ cr) (hrT : Kd.C (Kd.slice 3 (Kd.int .i64)) w At T.length T) (hcT : T.length ≤ ct) (hr : Kd.C (Kd.int .i64) w A l.length l) (hc : l.length ≤ c) :
  Calls Try.prog 63 #[.agg #[.slice Ar R.length cr, .slice At T.length ct], .slice A l.length c] w fun e w' => (playOk R T l = true ∧ ∃ g, e = .returned (.tuple #[.pointer (some ⟨g, 0, none⟩), .int .i64 0]) ∧ Gm w' g R T ∧ Below w.heap.size w w') ∨
   (playOk R T l = false ∧ e = .returned (.tuple #[.pointer none, .int .i64 2]) ∧ Below w.heap.size w w') := by
 have hu41 := Try.underlying41
 have HRR := Az0.mk hrR
 have HCR := Az0.mk hcR
 have HRT := Az0.mk hrT
 have HCT := Az0.mk hcT
 have HRL := Az0.mk hr
 clear hrR hcR hrT hcT hr
 have HB := Az0.mk (Below.refl w.heap.size w)
 rcases hrd : readOk R T with _ | _
 case false =>
  have HRX := Az0.mk (show playOk R T l = false by unfold playOk; rw [hrd, Bool.false_and])
  have HRD := Az0.mk hrd
  clear hrd
  go_enter Try.func63, Try.ntmps63
  go_wp2_with (first | ((with_reducible refine gate_dst (N := 2) rfl ?_); refine box_event ?hg (N := 2) ?hd (cs := #[.slice Ar R.length cr, .slice At T.length ct]) (t := 41) ?hr ?_; (case hd => rfl); (case hg => rfl); (case hr => first | (go_simp; done) | (go_simp; rfl)); intro gb hg w1 hbox hb; have BB := Az0.mk hbox; have GB := Az0.mk (show w.heap.size ≤ gb by rw [hg]; exact Nat.le_refl _); clear HB; have HB := Az0.mk hb; clear hg hbox hb; have hb_0 : w1.cell? ⟨gb, 0, none⟩ = some (.slice Ar R.length cr) := (bkC BB.out 0).trans rfl; have hb_1 : w1.cell? ⟨gb, 1, none⟩ = some (.slice At T.length ct) := (bkC BB.out 1).trans rfl) | (go_at_call 58; (refine (read_err Ar cr R At ct T _ (Kd.C_below HRR.out HB.out) HCR.out (Kd.C_below HRT.out HB.out) HCT.out HRD.out).mono ?_); rintro e w2 ⟨rfl, hb⟩; have n0_ := Az0.mk (below_step HB.out hb); clear HB hb hb_0 hb_1; have HB := n0_; clear n0_))
  go_ret2
  exact .inr ⟨HRX.out, by first | rfl | (simp; done), HB.out⟩
 case true =>
  have HRD := Az0.mk hrd
  have HPO := Az0.mk (show playOk R T l = choiceOk R l by unfold playOk; rw [hrd, Bool.true_and])
  have HN := Az0.mk (show R.length ≤ 5 by have h_ := hrd; unfold readOk at h_; simp only [Bool.and_eq_true, decide_eq_true_eq] at h_; exact h_.1.1.1.1.2)
  clear hrd
  go_enter Try.func63, Try.ntmps63
  by_cases c1 : l.length = R.length
  case neg =>
   have c1b : ((l.length : Int) == (R.length : Int)) = false := beq_eq_false_iff_ne.mpr (by omega)
   have c1c : ((l.length : Int) != (R.length : Int)) = true := bne_iff_ne.mpr (by omega)
   have c1d : (l.length == R.length) = false := beq_eq_false_iff_ne.mpr c1
   have c1e : (l.length != R.length) = true := bne_iff_ne.mpr c1
   have c1f : decide (l.length = R.length) = false := decide_eq_false c1
   have HRX := Az0.mk (show playOk R T l = false by rw [HPO.out]; unfold choiceOk; rw [c1f, Bool.false_and])
   clear c1
   go_wp2_with (first | ((with_reducible refine gate_dst (N := 2) rfl ?_); refine box_event ?hg (N := 2) ?hd (cs := #[.slice Ar R.length cr, .slice At T.length ct]) (t := 41) ?hr ?_; (case hd => rfl); (case hg => rfl); (case hr => first | (go_simp; done) | (go_simp; rfl)); intro gb hg w1 hbox hb; have BB := Az0.mk hbox; have GB := Az0.mk (show w.heap.size ≤ gb by rw [hg]; exact Nat.le_refl _); clear HB; have HB := Az0.mk hb; clear hg hbox hb; have hb_0 : w1.cell? ⟨gb, 0, none⟩ = some (.slice Ar R.length cr) := (bkC BB.out 0).trans rfl; have hb_1 : w1.cell? ⟨gb, 1, none⟩ = some (.slice At T.length ct) := (bkC BB.out 1).trans rfl) | (go_at_call 58; (refine (read_ok Ar cr R At ct T _ (Kd.C_below HRR.out HB.out) HCR.out (Kd.C_below HRT.out HB.out) HCT.out HRD.out).mono ?_); rintro e w2 ⟨g, rfl, hg, hG, hb⟩; have GM := Az0.mk hG; have n0_ := Az0.mk (below_step HB.out hb); have n1_ := Az0.mk (blk_below BB.out hb); clear HB BB hb hg hG hb_0 hb_1; have HB := n0_; have BB := n1_; clear n0_ n1_; have hb_0 : w2.cell? ⟨gb, 0, none⟩ = some (.slice Ar R.length cr) := (bkC BB.out 0).trans rfl; have hb_1 : w2.cell? ⟨gb, 1, none⟩ = some (.slice At T.length ct) := (bkC BB.out 1).trans rfl))
   go_ret2
   exact .inr ⟨HRX.out, by first | rfl | (simp; done), HB.out⟩
  have c1b : ((l.length : Int) == (R.length : Int)) = true := beq_iff_eq.mpr (by omega)
  have c1c : ((l.length : Int) != (R.length : Int)) = false := bne_eq_false_iff_eq.mpr (by omega)
  have c1d : (l.length == R.length) = true := beq_iff_eq.mpr c1
  have c1e : (l.length != R.length) = false := bne_eq_false_iff_eq.mpr c1
  have c1f : decide (l.length = R.length) = true := decide_eq_true c1
  have HLN := Az0.mk c1
  clear c1
  go_wp2_with (first | ((with_reducible refine gate_dst (N := 2) rfl ?_); refine box_event ?hg (N := 2) ?hd (cs := #[.slice Ar R.length cr, .slice At T.length ct]) (t := 41) ?hr ?_; (case hd => rfl); (case hg => rfl); (case hr => first | (go_simp; done) | (go_simp; rfl)); intro gb hg w1 hbox hb; have BB := Az0.mk hbox; have GB := Az0.mk (show w.heap.size ≤ gb by rw [hg]; exact Nat.le_refl _); clear HB; have HB := Az0.mk hb; clear hg hbox hb; have hb_0 : w1.cell? ⟨gb, 0, none⟩ = some (.slice Ar R.length cr) := (bkC BB.out 0).trans rfl; have hb_1 : w1.cell? ⟨gb, 1, none⟩ = some (.slice At T.length ct) := (bkC BB.out 1).trans rfl) | (go_at_call 58; (refine (read_ok Ar cr R At ct T _ (Kd.C_below HRR.out HB.out) HCR.out (Kd.C_below HRT.out HB.out) HCT.out HRD.out).mono ?_); rintro e w2 ⟨g, rfl, hg, hG, hb⟩; have GM := Az0.mk hG; have n0_ := Az0.mk (below_step HB.out hb); have n1_ := Az0.mk (blk_below BB.out hb); clear HB BB hb hg hG hb_0 hb_1; have HB := n0_; have BB := n1_; clear n0_ n1_; have hb_0 : w2.cell? ⟨gb, 0, none⟩ = some (.slice Ar R.length cr) := (bkC BB.out 0).trans rfl; have hb_1 : w2.cell? ⟨gb, 1, none⟩ = some (.slice At T.length ct) := (bkC BB.out 1).trans rfl))
  go_loopg [27] l.length (fun kq v27 w' => ∃ i : Nat, v27 = .int .i64 (i : Int) ∧ Az0 (i + kq = l.length) ∧ Az0 (∀ a : Nat, a < i → (decide (0 ≤ rd l (a : Int)) && decide (rd l (a : Int) < ((rd_L12 R (a : Int)).length : Int))) = true) ∧ Az0 (w'.heap[gb]? = some (.cells #[.slice Ar R.length cr, .slice At T.length ct] 41 (0, 0))) ∧ Az0 (Gm w' g R T) ∧ Az0 (Below w.heap.size w w'))
  case atStart => exact ⟨0, rfl, ⟨by simp⟩, ⟨fun a h => absurd h (Nat.not_lt_zero _)⟩, BB, GM, HB⟩
  case round =>
   clear BB GM HB hb_0 hb_1
   obtain ⟨i, rfl, HI, HA, BB, GM, HB⟩ := hrel
   have hb_0 : wr.cell? ⟨gb, 0, none⟩ = some (.slice Ar R.length cr) := (bkC BB.out 0).trans rfl
   have hb_1 : wr.cell? ⟨gb, 1, none⟩ = some (.slice At T.length ct) := (bkC BB.out 1).trans rfl
   cases gk with
   | zero =>
    have hi := HI.out
    have c4b : decide ((i : Int) < (l.length : Int)) = false := decide_eq_false (by omega)
    have c4b2 : decide (i < l.length) = false := decide_eq_false (by omega)
    have HRX := Az0.mk (show playOk R T l = true by rw [HPO.out]; unfold choiceOk; rw [c1f, Bool.true_and, List.all_eq_true]; intro a ha; rw [List.mem_range] at ha; exact HA.out a (by omega))
    clear hi
    go_wp2
    go_ret2
    exact .inl ⟨HRX.out, g, by first | rfl | (simp; done), GM.out, HB.out⟩
   | succ k1 =>
    have hi0 : (0 : Int) ≤ (i : Int) := Int.natCast_nonneg _
    have hi1 : (i : Int) < (l.length : Int) := by have := HI.out; omega
    have hi3 : (i : Int) < (R.length : Int) := by have := HLN.out; omega
    have c4b : decide ((i : Int) < (l.length : Int)) = true := decide_eq_true hi1
    have c4b2 : decide (i < l.length) = true := decide_eq_true (by omega)
    have hi2 : (i < l.length) = True := eq_true (by omega)
    have hi4 : (i < R.length) = True := eq_true (by omega)
    have HIL := Az0.mk (show i < l.length by have := HI.out; omega)
    obtain ⟨ad, e, hx⟩ := Kd.at_int HRL.out (i : Int) hi0 hi1
    cases e
    obtain ⟨ad2, A0, c0, e, hy, hc0, hC⟩ := at_L12 HRR.out (i : Int) hi0 hi3
    cases e
    simp only [Int.toNat_natCast] at hx hy
    replace hx := (HB.out.cell (World.block_lt_of_cell? w _ hx)).trans hx
    replace hy := (HB.out.cell (World.block_lt_of_cell? w _ hy)).trans hy
    clear hC hc0
    obtain ⟨x, hxx⟩ : ∃ x, rd l (i : Int) = x := ⟨_, rfl⟩
    obtain ⟨m, hm⟩ : ∃ m, (rd_L12 R (i : Int)).length = m := ⟨_, rfl⟩
    rw [hxx] at hx
    rw [hm] at hy
    have HX := Az0.mk hxx
    have HM := Az0.mk hm
    clear hxx hm
    replace hi0 := eq_true hi0
    replace hi1 := eq_true hi1
    replace hi3 := eq_true hi3
    by_cases d1 : x < 0
    case pos =>
     have d1b : decide (x < 0) = true := decide_eq_true d1
     have HRX := Az0.mk (show playOk R T l = false by rw [HPO.out]; unfold choiceOk; rw [show (List.range l.length).all _ = false from List.all_eq_false.2 ⟨i, List.mem_range.2 HIL.out, by rw [HX.out, decide_eq_false (show ¬ 0 ≤ x by omega)]; simp⟩, Bool.and_false])
     clear d1
     go_wp2
     go_ret2
     exact .inr ⟨HRX.out, by first | rfl | (simp; done), HB.out⟩
    have d1b : decide (x < 0) = false := decide_eq_false d1
    by_cases d2 : (m : Int) ≤ x
    case pos =>
     have d2b : decide ((m : Int) ≤ x) = true := decide_eq_true d2
     have HRX := Az0.mk (show playOk R T l = false by rw [HPO.out]; unfold choiceOk; rw [show (List.range l.length).all _ = false from List.all_eq_false.2 ⟨i, List.mem_range.2 HIL.out, by rw [HX.out, HM.out, decide_eq_false (show ¬ x < (m : Int) by omega)]; simp⟩, Bool.and_false])
     clear d1 d2
     go_wp2
     go_ret2
     exact .inr ⟨HRX.out, by first | rfl | (simp; done), HB.out⟩
    have d2b : decide ((m : Int) ≤ x) = false := decide_eq_false d2
    have HD := Az0.mk (show (decide (0 ≤ rd l (i : Int)) && decide (rd l (i : Int) < ((rd_L12 R (i : Int)).length : Int))) = true by rw [HX.out, HM.out, decide_eq_true (show 0 ≤ x by omega), decide_eq_true (show x < (m : Int) by omega)]; rfl)
    clear d1 d2
    go_wp2
    go_roundg k1
    case measure => omega
    case rel => exact ⟨i + 1, val_succ i (by have := HIL.out; have := HLN.out; have := HN.out; omega), ⟨by have := HI.out; omega⟩, ⟨fun a ha => by rcases Nat.lt_or_ge a i with h | h; exact HA.out a h; (have : a = i := by omega); rw [this]; exact HD.out⟩, BB, GM, HB⟩
end Go.Proofs.Ytjgbdicbdlollaa.B
namespace Go.Proofs.Ytjgbdicbdlollaa.B
open Go.RowKit Go.Proofs.YtjgbdicbdlollaaW.PrintWords Go.Proofs.YtjgbdicbdlollaaW.PrintLast Go.Proofs.YtjgbdicbdlollaaW.PrintMore
set_option linter.unusedVariables false
set_option linter.unusedSimpArgs false
/-- The places as_ a print sees them: as_ many cells as_ there are tolls. -/
abbrev unitsOf (T : List (List Int)) : List Unit := List.replicate T.length ()
def jam_Costs.f (k : Nat) (R T : List (List Int)) (l : List Int) : Option (List Int × Int × Int) :=
  if playOk R T l = true then (jam_game_costs.f k R (unitsOf T) (payF T) l).bind fun r => some (r.1, r.2, 0) else some ([], 0, 2)
theorem jam_Costs.mono : ∀ R T l k, LeO (jam_Costs.f k R T l) (jam_Costs.f (k + 1) R T l) := by
  intro R T l k
  unfold jam_Costs.f
  exact LeO.ite (LeO.bind (jam_game_costs.mono _ _ _ _ k) fun r => LeO.refl _) (LeO.refl _)
theorem played_ok (A0_0 : Option Addr) (c0_0 : Nat) (l0_0 : List (List Int)) (A0_1 : Option Addr) (c0_1 : Nat) (l0_1 : List (List Int)) (A1 : Option Addr) (c1 : Nat) (l1 : List Int) (w : World) (hr0_0 : Kd.C (Kd.slice 3 (Kd.int .i64)) w A0_0 l0_0.length l0_0) (hc0_0 : l0_0.length ≤ c0_0) (hr0_1 : Kd.C (Kd.slice 3 (Kd.int .i64)) w A0_1 l0_1.length l0_1) (hc0_1 : l0_1.length ≤ c0_1) (hr1 : Kd.C (Kd.int .i64) w A1 l1.length l1) (hc1 : l1.length ≤ c1) (h : playOk l0_0 l0_1 l1 = true) :
    Calls Try.prog 63 #[.agg #[.slice A0_0 l0_0.length c0_0, .slice A0_1 l0_1.length c0_1], .slice A1 l1.length c1] w fun e w' => ∃ g, e = .returned (.tuple #[.pointer (some ⟨g, 0, none⟩), .int .i64 0]) ∧ Gm w' g l0_0 l0_1 ∧ Below w.heap.size w w' := by
  refine (played_calls A0_0 c0_0 l0_0 A0_1 c0_1 l0_1 A1 c1 l1 w hr0_0 hc0_0 hr0_1 hc0_1 hr1 hc1).mono fun e w' hh => ?_
  rcases hh with ⟨_, hh⟩ | ⟨h1, _⟩
  · exact hh
  · rw [h] at h1; cases h1
theorem played_err (A0_0 : Option Addr) (c0_0 : Nat) (l0_0 : List (List Int)) (A0_1 : Option Addr) (c0_1 : Nat) (l0_1 : List (List Int)) (A1 : Option Addr) (c1 : Nat) (l1 : List Int) (w : World) (hr0_0 : Kd.C (Kd.slice 3 (Kd.int .i64)) w A0_0 l0_0.length l0_0) (hc0_0 : l0_0.length ≤ c0_0) (hr0_1 : Kd.C (Kd.slice 3 (Kd.int .i64)) w A0_1 l0_1.length l0_1) (hc0_1 : l0_1.length ≤ c0_1) (hr1 : Kd.C (Kd.int .i64) w A1 l1.length l1) (hc1 : l1.length ≤ c1) (h : ¬ playOk l0_0 l0_1 l1 = true) :
    Calls Try.prog 63 #[.agg #[.slice A0_0 l0_0.length c0_0, .slice A0_1 l0_1.length c0_1], .slice A1 l1.length c1] w fun e w' => e = .returned (.tuple #[.pointer none, .int .i64 2]) ∧ Below w.heap.size w w' := by
  refine (played_calls A0_0 c0_0 l0_0 A0_1 c0_1 l0_1 A1 c1 l1 w hr0_0 hc0_0 hr0_1 hc0_1 hr1 hc1).mono fun e w' hh => ?_
  rcases hh with ⟨h1, _⟩ | ⟨_, hh⟩
  · exact absurd h1 h
  · exact hh
set_option maxHeartbeats 8000000 in
set_option maxRecDepth 100000 in
theorem jam_Costs.calls (k : Nat) (A0_0 : Option Addr) (c0_0 : Nat) (l0_0 : List (List Int)) (A0_1 : Option Addr) (c0_1 : Nat) (l0_1 : List (List Int)) (A1 : Option Addr) (c1 : Nat) (l1 : List Int) (r1 : List Int) (r2 : Int) (r3 : Int) (w : World) (hr0_0 : Kd.C (Kd.slice 3 (Kd.int .i64)) w A0_0 l0_0.length l0_0) (hc0_0 : l0_0.length ≤ c0_0) (hr0_1 : Kd.C (Kd.slice 3 (Kd.int .i64)) w A0_1 l0_1.length l0_1) (hc0_1 : l0_1.length ≤ c0_1) (hr1 : Kd.C (Kd.int .i64) w A1 l1.length l1) (hc1 : l1.length ≤ c1) (h : jam_Costs.f k l0_0 l0_1 l1 = some (r1, r2, r3)) :
  Calls Try.prog 28 #[.agg #[.slice A0_0 l0_0.length c0_0, .slice A0_1 l0_1.length c0_1], .slice A1 l1.length c1] w fun e w' => ∃ v0_ : Value, e = .returned (.tuple #[v0_, .int .i64 r2, .int .i64 r3]) ∧ Kd.R (Kd.int .i64) 3 w' w.heap.size (fun _ => True) v0_ r1 ∧ Below w.heap.size w w' := by
 have hu41 := Try.underlying41
 have HR0 := Az0.mk hr0_0
 have HC0 := Az0.mk hc0_0
 have HR1 := Az0.mk hr0_1
 have HC1 := Az0.mk hc0_1
 have HRL := Az0.mk hr1
 have HCL := Az0.mk hc1
 clear hr0_0 hc0_0 hr0_1 hc0_1 hr1 hc1
 have HB := Az0.mk (Below.refl w.heap.size w)
 have qT : ∀ (w : World) (a : Option Addr) (n c n' c' : Nat), (binOp .eql 24 (.slice a n c) (.slice none n' c')).run Try.prog w = .ok (.bool a.isNone) w := fun w a n c n' c' => Lib.run_eql_slice_nil w _ _ a n c n' c' Try.underlying24
 have qN : ∀ (w : World) (a : Option Addr) (n c n' c' : Nat), (binOp .neq 24 (.slice a n c) (.slice none n' c')).run Try.prog w = .ok (.bool (!a.isNone)) w := fun w a n c n' c' => run_neq_slice_nil_any w _ _ a n c n' c' Try.underlying24
 unfold jam_Costs.f at h
 by_cases hp : playOk l0_0 l0_1 l1 = true
 case neg =>
  rw [if_neg hp] at h
  have HPO := Az0.mk hp
  clear hp
  simp only [Option.some.injEq, Prod.mk.injEq] at h
  obtain ⟨rfl, rfl, rfl⟩ := h
  go_enter Try.func28, Try.ntmps28
  go_wp2_with (first | ((with_reducible refine gate_dst (N := 2) rfl ?_); refine box_event ?hg (N := 2) ?hd (cs := #[.slice A0_0 l0_0.length c0_0, .slice A0_1 l0_1.length c0_1]) (t := 41) ?hr ?_; (case hd => rfl); (case hg => rfl); (case hr => first | (go_simp; done) | (go_simp; rfl)); intro gb hg w1 hbox hb; have BB := Az0.mk hbox; clear HB; have HB := Az0.mk hb; clear hg hbox hb; have hb_0 : w1.cell? ⟨gb, 0, none⟩ = some (.slice A0_0 l0_0.length c0_0) := (bkC BB.out 0).trans rfl; have hb_1 : w1.cell? ⟨gb, 1, none⟩ = some (.slice A0_1 l0_1.length c0_1) := (bkC BB.out 1).trans rfl) | (go_at_call 63; (refine (played_err A0_0 c0_0 l0_0 A0_1 c0_1 l0_1 A1 c1 l1 _ (Kd.C_below HR0.out HB.out) HC0.out (Kd.C_below HR1.out HB.out) HC1.out (Kd.C_below HRL.out HB.out) HCL.out HPO.out).mono ?_); rintro e w2 ⟨rfl, hb⟩; have n0_ := Az0.mk (below_step HB.out hb); clear HB BB hb hb_0 hb_1; have HB := n0_; clear n0_))
  go_ret3
  exact ⟨_, by first | rfl | (simp; done), Kd.R_nil _ _ _ _ _, HB.out⟩
 rw [if_pos hp] at h
 have HPO := Az0.mk hp
 clear hp
 obtain ⟨⟨x1, x2⟩, hx, h⟩ := Option.bind_eq_some_iff.1 h
 have HX := Az0.mk hx
 clear hx
 simp only [Option.some.injEq, Prod.mk.injEq] at h
 obtain ⟨rfl, rfl, rfl⟩ := h
 go_enter Try.func28, Try.ntmps28
 go_wp2_with (first | ((with_reducible refine gate_dst (N := 2) rfl ?_); refine box_event ?hg (N := 2) ?hd (cs := #[.slice A0_0 l0_0.length c0_0, .slice A0_1 l0_1.length c0_1]) (t := 41) ?hr ?_; (case hd => rfl); (case hg => rfl); (case hr => first | (go_simp; done) | (go_simp; rfl)); intro gb hg w1 hbox hb; have BB := Az0.mk hbox; clear HB; have HB := Az0.mk hb; clear hg hbox hb; have hb_0 : w1.cell? ⟨gb, 0, none⟩ = some (.slice A0_0 l0_0.length c0_0) := (bkC BB.out 0).trans rfl; have hb_1 : w1.cell? ⟨gb, 1, none⟩ = some (.slice A0_1 l0_1.length c0_1) := (bkC BB.out 1).trans rfl) | (go_at_call 63; (refine (played_ok A0_0 c0_0 l0_0 A0_1 c0_1 l0_1 A1 c1 l1 _ (Kd.C_below HR0.out HB.out) HC0.out (Kd.C_below HR1.out HB.out) HC1.out (Kd.C_below HRL.out HB.out) HCL.out HPO.out).mono ?_); rintro e w2 ⟨g, rfl, hG, hb⟩; have GM := Az0.mk hG; have n0_ := Az0.mk (below_step HB.out hb); clear HB BB hb hG hb_0 hb_1; have HB := n0_; clear n0_) | (go_at_call 61; (refine (costs_g k g l0_0 l0_1 A1 c1 l1 x1 x2 _ GM.out (Kd.C_below HRL.out HB.out) HCL.out HX.out).mono ?_); rintro e w3 ⟨v1, rfl, ho, hb⟩; have HO := Az0.mk (Kd.R_lower ho (below_size HB.out)); have n0_ := Az0.mk (below_step HB.out hb); clear HB ho hb; have HB := n0_; clear n0_))
 go_ret3
 exact ⟨_, by first | rfl | (simp; done), HO.out, HB.out⟩
end Go.Proofs.Ytjgbdicbdlollaa.B
namespace Go.Proofs.Ytjgbdicbdlollaa.B
open Go.RowKit Go.Proofs.YtjgbdicbdlollaaW.PrintWords Go.Proofs.YtjgbdicbdlollaaW.PrintLast Go.Proofs.YtjgbdicbdlollaaW.PrintMore
set_option linter.unusedVariables false
set_option linter.unusedSimpArgs false
section
variable {ops : Array Oper} {o : Oper} {a : Act} {Q : Exit → Act → World → Prop} {Kc : Act → World → Prop}
theorem cutapp_step (hw : Region.wanted o (yielded ops a.tmps) = true) (s x : Operand)
    (ho : o.op = .call { callee := .builtin .append, args := #[s, x], argTypes := #[24, 24] }) {W : World} {A : Option Addr} {xs : List Int} {p : Int}
    (hs : a.eval s = .slice A xs.length xs.length) (hx : a.eval x = .slice (some ⟨W.heap.size, 0, none⟩) 1 1) (hr : Kd.C (Kd.int .i64) W A xs.length xs) (hl : xs.length ≤ 1000)
    (h : ∀ v1 w1, Kd.R (Kd.int .i64) 3 w1 W.heap.size (fun _ => True) v1 (xs ++ [p]) → Below W.heap.size W w1 → Kc (a.put o.dst v1) w1) :
    if Region.wanted o (yielded ops a.tmps) = true then Oper.wp Try.prog o a (W.alloc (.cells #[.int .i64 p] 3)) Kc Q else Kc (a.put o.dst undef) (W.alloc (.cells #[.int .i64 p] 3)) := by
  rcases A with _ | ad
  · have h0 : xs.length = 0 := by
      rcases Nat.eq_zero_or_pos xs.length with h0 | h0
      · exact h0
      · obtain ⟨ad, h, _⟩ := hr.2.2 h0
        cases h
    obtain rfl : xs = [] := List.eq_nil_of_length_eq_zero h0
    refine Kd.R_append_step (Kd.int .i64) (w0 := W) W.heap.size hw s x 24 3 (.int .i64 0) 8 ho Try.underlying24 info3 rfl (by decide) (by omega) (.slice none 0 0) [] p [.int .i64 p] (fun _ => True) (fun _ => True) hs hx ?_ (fun k hk => ⟨trivial, by simp [Value.ownBlock]⟩) (fun _ _ => trivial) (Kd.R_nil _ _ _ _ _) (Below.refl _ _) (Nat.le_refl _) (by simp) (fun v1 w1 h1 h2 h3 h4 => h v1 w1 h1 h2)
    rfl
  · obtain ⟨i0, hi, hzz⟩ := Option.map_eq_some_iff.1 info3
    simp only [Prod.mk.injEq] at hzz
    obtain ⟨hz0, hz1, hz2⟩ := hzz
    have holds : ∀ (j : Nat) (u : Value), (xs.map (Value.int .i64))[j]? = some u → (W.alloc (.cells #[.int .i64 p] 3)).cell? (ad.add j) = some u := by
      intro j u hj
      rw [List.getElem?_map] at hj
      obtain ⟨q, hq, rfl⟩ := Option.map_eq_some_iff.1 hj
      have hjl : j < xs.length := (List.getElem?_eq_some_iff.1 hq).1
      obtain ⟨ad2, e, hc⟩ := hr.2.2 (by omega)
      cases e
      obtain ⟨c, hcl, hk, hcc⟩ := hc j q hq
      have hk' : c = [.int .i64 q] := hk
      subst hk'
      have := hcc 0 _ rfl
      rw [show j * (Kd.int .i64).sz + 0 = j by show j * 1 + 0 = j; omega] at this
      exact pw_cell_below (baA_ (Below.refl _ _) _) this
    have hnews : ∀ (j : Nat) (u : Value), [Value.int .i64 p][j]? = some u → (W.alloc (.cells #[.int .i64 p] 3)).cell? ((⟨W.heap.size, 0, none⟩ : Addr).add j) = some u := cell_one_new W (.int .i64 p) 3
    obtain ⟨v', w', hrun, hown, hg⟩ := run_append_arg_grows (P := Try.prog) (W.alloc (.cells #[.int .i64 p] 3)) 24 o.type 3 i0 (.int .i64 0) 1 8 Try.underlying24 hi hz0 hz1 hz2 rfl (by decide) ad xs.length xs.length (xs.map (Value.int .i64)) (by simp) holds ⟨W.heap.size, 0, none⟩ 1 1 [.int .i64 p] rfl hnews (by omega) (by simp only [maxLen]; omega) (by omega)
    have hrun2 : (execOp a.eval o).run Try.prog (W.alloc (.cells #[.int .i64 p] 3)) = .ok (.value v') w' := by
      unfold execOp
      simp only [ho, resolve, invoke, builtin, Sem.run_bind, Sem.run_pure, Result.andThen_ok, List.map_toArray, List.map_cons, List.map_nil, hs, hx, hrun]
    refine event_step hw hrun2 (h v' w' ?_ ?_)
    · have hl2 : xs.length + 1 = (xs ++ [p]).length := by simp
      have hc : xs.map (Value.int .i64) ++ [.int .i64 p] = nums .i64 (xs ++ [p]) := by simp [nums]
      rw [hl2, hc] at hown
      exact Kd.R_lower (Kd.R_of_own hown (fun _ _ => trivial)) (by simp)
    · have hb : Below W.heap.size W (W.alloc (.cells #[.int .i64 p] 3)) := baA_ (Below.refl _ _) _
      exact hb.grown hg (by simp) (fun k hk => by cases hk)
end
end Go.Proofs.Ytjgbdicbdlollaa.B
namespace Go.Proofs.Ytjgbdicbdlollaa.B
open Go.RowKit Go.Proofs.YtjgbdicbdlollaaW.PrintWords Go.Proofs.YtjgbdicbdlollaaW.PrintLast Go.Proofs.YtjgbdicbdlollaaW.PrintMore
set_option linter.unusedVariables false
set_option linter.unusedSimpArgs false
attribute [local go_sem] run_store_func
/-- The middle blocks, from n1 on and below N0, stay (what a visitor does). -/
structure Mid (n1 N0 : Nat) (W W' : World) : Prop where
  size : W.heap.size ≤ W'.heap.size
  blk : ∀ k, n1 ≤ k → k < N0 → W'.heap[k]? = W.heap[k]?
/-- Nothing but middle blocks has changed (what all does by itself). -/
structure Side (n1 N0 : Nat) (W W' : World) : Prop where
  os : W'.os = W.os
  tape : W'.tape = W.tape
  output : W'.output = W.output
  size : W.heap.size ≤ W'.heap.size
  blk : ∀ k, k < W.heap.size → (k < n1 ∨ N0 ≤ k) → W'.heap[k]? = W.heap[k]?
/-- The routes of driver i, one after the other. -/
def onLoop {σ : Type} (F : List Int → σ → Option (List Int × σ)) (i : Nat) : Nat → Nat → List Int → σ → Option (List Int × σ)
  | 0, _, ch, s => some (ch, s)
  | m + 1, r, ch, s => (F (ch.set i (r : Int)) s).bind fun q => onLoop F i m (r + 1) q.1 q.2
/-- All choices that begin as_ ch does up to i. -/
def onF {σ : Type} (R : List (List Int)) (vis : σ → List Int → Option σ) : Nat → Nat → List Int → σ → Option (List Int × σ)
  | 0, _, ch, s => (vis s ch).bind fun s2 => some (ch, s2)
  | f + 1, i, ch, s => onLoop (fun c t => onF R vis f (i + 1) c t) i (rd_L12 R (i : Int)).length 0 ch s
theorem onLoop_mono {σ : Type} {F G : List Int → σ → Option (List Int × σ)} (h : ∀ c t, LeO (F c t) (G c t)) (i : Nat) : ∀ m r ch s, LeO (onLoop F i m r ch s) (onLoop G i m r ch s)
  | 0, _, _, _ => LeO.refl _
  | m + 1, r, ch, s => LeO.bind (h _ _) fun q => onLoop_mono h i m _ _ _
theorem onF_mono {σ : Type} (R : List (List Int)) {vis vis2 : σ → List Int → Option σ} (h : ∀ s c, LeO (vis s c) (vis2 s c)) : ∀ f i ch s, LeO (onF R vis f i ch s) (onF R vis2 f i ch s)
  | 0, _, _, _ => LeO.bind (h _ _) fun _ => LeO.refl _
  | f + 1, i, ch, s => onLoop_mono (fun c t => onF_mono R h f (i + 1) c t) i _ _ _ _
/-- all's own blocks. -/
structure AEnv (W : World) (n1 N0 b4 b3 b2 b5 gc cp n g : Nat) (v : Value) (ch : List Int) : Prop where
  c4 : W.heap[b4]? = some (.cells #[.slice (some ⟨gc, 0, none⟩) n cp] 24 (0, 0))
  c3 : W.heap[b3]? = some (.cells #[v] 89 (0, 0))
  c2 : W.heap[b2]? = some (.cells #[.pointer (some ⟨g, 0, none⟩)] 82 (0, 0))
  c5 : W.heap[b5]? = some (.cells #[.func (.func 91) #[] #[.pointer (some ⟨b4, 0, none⟩), .pointer (some ⟨b3, 0, none⟩), .pointer (some ⟨b2, 0, none⟩), .pointer (some ⟨b5, 0, none⟩)]] 119 (0, 0))
  row : Kd.R (Kd.int .i64) 3 W n1 (fun k => k = gc) (.slice (some ⟨gc, 0, none⟩) n cp) ch
  m4 : n1 ≤ b4 ∧ b4 < N0
  m3 : n1 ≤ b3 ∧ b3 < N0
  m2 : n1 ≤ b2 ∧ b2 < N0
  m5 : n1 ≤ b5 ∧ b5 < N0
  mc : n1 ≤ gc ∧ gc < N0
  big : N0 ≤ W.heap.size
section
variable {W W' : World} {n1 N0 b4 b3 b2 b5 gc cp n g : Nat} {v : Value} {ch : List Int}
theorem AEnv.mid (h : AEnv W n1 N0 b4 b3 b2 b5 gc cp n g v ch) (hm : Mid n1 N0 W W') : AEnv W' n1 N0 b4 b3 b2 b5 gc cp n g v ch :=
  ⟨(hm.blk _ h.m4.1 h.m4.2).trans h.c4, (hm.blk _ h.m3.1 h.m3.2).trans h.c3, (hm.blk _ h.m2.1 h.m2.2).trans h.c2, (hm.blk _ h.m5.1 h.m5.2).trans h.c5, Kd.R_step h.row (fun k hk _ => by subst hk; exact hm.blk _ h.mc.1 h.mc.2), h.m4, h.m3, h.m2, h.m5, h.mc, Nat.le_trans h.big hm.size⟩
theorem AEnv.set (h : AEnv W n1 N0 b4 b3 b2 b5 gc cp n g v ch) (i : Nat) (r : Int) : AEnv (W.setCell ⟨gc, i, none⟩ (.int .i64 r)) n1 N0 b4 b3 b2 b5 gc cp n g v (ch.set i r) := by
  have hp := Kd.R_putg h.row (i : Int) r
  simp only [Int.toNat_natCast] at hp
  refine ⟨blk_grown h.c4 hp.2 (Kd.R_ne h.row h.c4 (by decide)), blk_grown h.c3 hp.2 (Kd.R_ne h.row h.c3 (by decide)), blk_grown h.c2 hp.2 (Kd.R_ne h.row h.c2 (by decide)), blk_grown h.c5 hp.2 (Kd.R_ne h.row h.c5 (by decide)), hp.1, h.m4, h.m3, h.m2, h.m5, h.mc, Nat.le_trans h.big hp.2.size⟩
theorem AEnv.side (h : AEnv W n1 N0 b4 b3 b2 b5 gc cp n g v ch) (i : Nat) (r : Int) : Side n1 N0 W (W.setCell ⟨gc, i, none⟩ (.int .i64 r)) := by
  have hp := (Kd.R_putg h.row (i : Int) r).2
  simp only [Int.toNat_natCast] at hp
  refine ⟨hp.os, hp.tape, hp.output, hp.size, fun k hk hs => hp.block k hk (fun e => ?_)⟩
  injection e with e
  have := h.mc
  omega
end
section
variable {P : Program} {ops : Array Oper} {Q : Exit → Act → World → Prop}
/-- A call of a function value of one argument, as_ one step. -/
theorem goesV_ {rest : List Oper} {oi : Oper} {a : Act} {w : World} (N : Option Tmp) (hd : oi.dst = N) (hg : oi.guard = none) {f : FuncId} {caps : Array Value} {fn : Func} (hf : P.funcs[f]? = some fn) (hn : (fn.name == "runtime.NumGoroutine") = false) (hb : fn.body.isSome = true) {x y : Operand} {ts : Array TypeId}
    (hop : oi.op = .call { callee := .value x, args := #[y], argTypes := ts }) (hx : a.eval x = .func (.func f) #[] caps) {u : Value} (hy : a.eval y = u)
    (h : Calls P f (#[u] ++ caps) w fun e w' => ∃ v, e = .returned v ∧ wpList P ops Q rest (a.put N v) w') : wpList P ops Q (oi :: rest) a w := by
  refine wpList_plain hg fun K hK => ?_
  have he := enters_ hf hn hb (#[u] ++ caps) w
  have hrun : (execOp a.eval oi).run P w = .ok (.enter f (#[u] ++ caps)) w := by
    unfold execOp
    simp only [hop, resolve, Deferred.ofValue, invoke, hx, hy, List.map_toArray, List.map_cons, List.map_nil]
    simpa using he
  unfold Oper.wp
  rw [hrun, Oper.upon_enter]
  refine h.mono fun e w'' hh => ?_
  obtain ⟨v, rfl, hk⟩ := hh
  subst hd
  exact hK _ _ hk
end
set_option maxHeartbeats 8000000 in
set_option maxRecDepth 100000 in
theorem on_calls {σ : Type} (R T : List (List Int)) (n1 N0 b4 b3 b2 b5 gc cp g : Nat) (fv : FuncId) (caps : Array Value) (fn : Func) (hfn : Try.prog.funcs[fv]? = some fn) (hfn2 : (fn.name == "runtime.NumGoroutine") = false) (hfn3 : fn.body.isSome = true)
  (vis : σ → List Int → Option σ) (Inv : World → σ → Prop) (hgm : ∀ W s, Inv W s → Gm W g R T) (hstab : ∀ W W' s, Inv W s → Side n1 N0 W W' → Inv W' s)
  (hcall : ∀ W s s' A c l, N0 ≤ W.heap.size → Inv W s → Kd.C (Kd.int .i64) W A l.length l → l.length ≤ c → l.length = R.length → vis s l = some s' → Calls Try.prog fv (#[.slice A l.length c] ++ caps) W fun e W' => e = .returned (.tuple #[]) ∧ Inv W' s' ∧ Mid n1 N0 W W')
  (hR : R.length ≤ 5) (hRl : ∀ i, (rd_L12 R i).length ≤ 5) :
  ∀ (f i : Nat) (ch ch' : List Int) (s s' : σ) (W : World), i + f = R.length → ch.length = R.length → AEnv W n1 N0 b4 b3 b2 b5 gc cp R.length g (.func (.func fv) #[] caps) ch → Inv W s → onF R vis f i ch s = some (ch', s') →
   Calls Try.prog 91 #[.int .i64 (i : Int), .pointer (some ⟨b4, 0, none⟩), .pointer (some ⟨b3, 0, none⟩), .pointer (some ⟨b2, 0, none⟩), .pointer (some ⟨b5, 0, none⟩)] W fun e W' => e = .returned (.tuple #[]) ∧ AEnv W' n1 N0 b4 b3 b2 b5 gc cp R.length g (.func (.func fv) #[] caps) ch' ∧ ch'.length = R.length ∧ Inv W' s' := by
 intro f
 induction f with
 | zero =>
  intro i ch ch' s s' W hi hcl hE hI h
  unfold onF at h
  obtain ⟨s2, hs2, h⟩ := Option.bind_eq_some_iff.1 h
  simp only [Option.some.injEq, Prod.mk.injEq] at h
  obtain ⟨rfl, rfl⟩ := h
  obtain rfl : i = R.length := by omega
  have HV := Az0.mk hs2
  have HE := Az0.mk hE
  have HI := Az0.mk hI
  have HCL := Az0.mk hcl
  have h4 : W.cell? ⟨b4, 0, none⟩ = some (.slice (some ⟨gc, 0, none⟩) R.length cp) := (bkC hE.c4 0).trans rfl
  have h3 : W.cell? ⟨b3, 0, none⟩ = some (.func (.func fv) #[] caps) := (bkC hE.c3 0).trans rfl
  have c0 : ((R.length : Int) == (R.length : Int)) = true := beq_self_eq_true _
  have c0b : decide ((R.length : Int) = (R.length : Int)) = true := decide_eq_true rfl
  have HC := Az0.mk hcall
  have HF := Az0.mk hfn
  clear hs2 hE hI hcl hi hgm hstab hcall hR hRl hfn
  go_enter Try.func91, Try.ntmps91
  go_wp2_with (first | ((with_reducible refine gate_dst (N := 13) rfl ?_); refine goesV_ (some 13) rfl rfl HF.out hfn2 hfn3 rfl rfl (u := .slice (some ⟨gc, 0, none⟩) R.length cp) rfl ?_; rw [← HCL.out]; refine (HC.out W s s2 (some ⟨gc, 0, none⟩) cp ch HE.out.big HI.out (Kd.R_reads' HE.out.row).2.2 (by have := (Kd.R_reads' HE.out.row).2.1; rw [HCL.out]; exact this) HCL.out HV.out).mono ?_; rintro e w2 ⟨rfl, hi2, hm⟩; refine ⟨_, rfl, ?_⟩; rw [HCL.out]; have HI2 := Az0.mk hi2; have HE2 := Az0.mk (HE.out.mid hm); clear hi2 hm h4 h3))
  refine bodyPost_ret (results_none rfl _ _ _) rfl ?_
  first | exact ⟨HE2.out, HCL.out, HI2.out⟩ | exact ⟨by first | rfl | (simp; done), HE2.out, HCL.out, HI2.out⟩
 | succ f ih =>
  intro i ch ch' s s' W hi hcl hE hI h
  unfold onF at h
  have HH0 := Az0.mk h
  have HE := Az0.mk hE
  have HI := Az0.mk hI
  have HCL := Az0.mk hcl
  have HIH := Az0.mk ih
  have HGM := Az0.mk hgm
  have HST := Az0.mk hstab
  have HFI := Az0.mk hi
  have HR := Az0.mk hR
  have HRL := Az0.mk hRl
  obtain ⟨Ar, cr, Ap, cp2, q, g1, g2, g3, g4, g5, g6, g7⟩ := (hgm W s hI).ex
  have hg_0 : W.cell? ⟨g, 0, none⟩ = some (.slice Ar R.length cr) := (bkC g1 0).trans rfl
  have hi0 : (0 : Int) ≤ (i : Int) := Int.natCast_nonneg _
  have hi1 : (i : Int) < (R.length : Int) := by omega
  have hi2 : (i < R.length) = True := eq_true (by omega)
  obtain ⟨ad, A0, c0, e, hx, hc0, hC⟩ := at_L12 g3 (i : Int) hi0 hi1
  cases e
  simp only [Int.toNat_natCast] at hx
  clear g1 g2 g3 g4 g5 g6 g7 hc0 hC
  obtain ⟨m, hm⟩ : ∃ m, (rd_L12 R (i : Int)).length = m := ⟨_, rfl⟩
  have HM := Az0.mk (show m ≤ 5 by rw [← hm]; exact hRl _)
  have HMM := Az0.mk hm
  rw [hm] at hx
  have h4 : W.cell? ⟨b4, 0, none⟩ = some (.slice (some ⟨gc, 0, none⟩) R.length cp) := (bkC hE.c4 0).trans rfl
  have h2 : W.cell? ⟨b2, 0, none⟩ = some (.pointer (some ⟨g, 0, none⟩)) := (bkC hE.c2 0).trans rfl
  have e0 : ((i : Int) == (R.length : Int)) = false := beq_eq_false_iff_ne.mpr (by omega)
  have e0b : decide ((i : Int) = (R.length : Int)) = false := decide_eq_false (by omega)
  have e0c : (i == R.length) = false := beq_eq_false_iff_ne.mpr (by omega)
  have e0d : decide (i = R.length) = false := decide_eq_false (by omega)
  replace hi0 := eq_true hi0
  replace hi1 := eq_true hi1
  clear h hE hI hcl ih hgm hstab hi hR hRl hcall hm
  go_enter Try.func91, Try.ntmps91
  go_wp2
  clear hx h4 h2 hg_0
  go_loopg [22] m (fun kq v22 w' => ∃ (r : Nat) (ch1 : List Int) (t : σ), v22 = .int .i64 (r : Int) ∧ Az0 (r + kq = m) ∧ Az0 (onLoop (fun c t => onF R vis f (i + 1) c t) i kq r ch1 t = some (ch', s')) ∧ Az0 (AEnv w' n1 N0 b4 b3 b2 b5 gc cp R.length g (.func (.func fv) #[] caps) ch1) ∧ Az0 (ch1.length = R.length) ∧ Az0 (Inv w' t))
  case atStart => exact ⟨0, ch, s, rfl, ⟨by simp⟩, ⟨by have := HH0.out; rw [HMM.out] at this; exact this⟩, HE, HCL, HI⟩
  case round =>
   clear HH0 HE HI HCL
   obtain ⟨r, ch1, t, rfl, HK, HH, HE, HCL, HI⟩ := hrel
   cases gk with
   | zero =>
    have hk := HK.out
    have c4b : decide ((r : Int) < (m : Int)) = false := decide_eq_false (by omega)
    have c4b2 : decide (r < m) = false := decide_eq_false (by omega)
    have hh := HH.out
    simp only [onLoop, Option.some.injEq, Prod.mk.injEq] at hh
    obtain ⟨rfl, rfl⟩ := hh
    clear hk HH
    go_wp2
    go_end0
    try go_wp2
    first | exact ⟨HE.out, HCL.out, HI.out⟩ | exact ⟨by first | rfl | (simp; done), HE.out, HCL.out, HI.out⟩
   | succ k1 =>
    have c4b : decide ((r : Int) < (m : Int)) = true := decide_eq_true (by have := HK.out; omega)
    have c4b2 : decide (r < m) = true := decide_eq_true (by have := HK.out; omega)
    have hh := HH.out
    rw [onLoop] at hh
    obtain ⟨q2, hq2, hh⟩ := Option.bind_eq_some_iff.1 hh
    have HQ2 := Az0.mk hq2
    have HH2 := Az0.mk hh
    clear hq2 hh HH
    have h4 : wr.cell? ⟨b4, 0, none⟩ = some (.slice (some ⟨gc, 0, none⟩) R.length cp) := (bkC HE.out.c4 0).trans rfl
    obtain ⟨hcc, hcf⟩ := Kd.R_celln 0 HE.out.row (i : Int) (by omega) (by have := HFI.out; omega)
    simp only [Int.toNat_natCast] at hcc hcf
    go_upto_region 6 with (fail)
    (try simp only [Act.put, List.setIfInBounds_toArray, List.set_cons_zero, List.set_cons_succ])
    obtain ⟨wq, hwq⟩ : ∃ wq, wr.setCell ⟨gc, i, none⟩ (.int .i64 (r : Int)) = wq := ⟨_, rfl⟩
    rw [hwq]
    have HE2 := Az0.mk (show AEnv wq n1 N0 b4 b3 b2 b5 gc cp R.length g (.func (.func fv) #[] caps) (ch1.set i (r : Int)) from hwq ▸ HE.out.set i (r : Int))
    have HI2 := Az0.mk (show Inv wq t from HST.out _ _ _ HI.out (hwq ▸ HE.out.side i (r : Int)))
    clear HE HI hwq hcc hcf h4
    have h5 : wq.cell? ⟨b5, 0, none⟩ = some (.func (.func 91) #[] #[.pointer (some ⟨b4, 0, none⟩), .pointer (some ⟨b3, 0, none⟩), .pointer (some ⟨b2, 0, none⟩), .pointer (some ⟨b5, 0, none⟩)]) := (bkC HE2.out.c5 0).trans rfl
    have hib : (i : Int) + 1 ≤ 5 := by have := HFI.out; have := HR.out; omega
    have hib0 : (0 : Int) ≤ (i : Int) := Int.natCast_nonneg _
    go_wp2_with (first | (go_at_call 91; ((refine (HIH.out (i + 1) (ch1.set i (r : Int)) q2.1 t q2.2 _ (by have := HFI.out; omega) (by rw [List.length_set]; exact HCL.out) HE2.out HI2.out HQ2.out).mono ?_); rintro e w5 ⟨rfl, hE5, hl5, hI5⟩; have HE5 := Az0.mk hE5; have HI5 := Az0.mk hI5; have HL5 := Az0.mk hl5; clear hE5 hI5 hl5 h5)))
    try go_end0
    try go_wp2
    go_roundg k1
    case measure => omega
    case rel => exact ⟨r + 1, q2.1, q2.2, val_succ r (by have := HK.out; have := HM.out; omega), ⟨by have := HK.out; omega⟩, HH2, HE5, HL5, HI5⟩
set_option maxHeartbeats 8000000 in
set_option maxRecDepth 100000 in
theorem all_calls {σ : Type} (R T : List (List Int)) (g : Nat) (fv : FuncId) (caps : Array Value) (fn : Func) (hfn : Try.prog.funcs[fv]? = some fn) (hfn2 : (fn.name == "runtime.NumGoroutine") = false) (hfn3 : fn.body.isSome = true)
  (vis : σ → List Int → Option σ) (Inv : Nat → World → σ → Prop) (w : World) (s0 s1 : σ) (ch1 : List Int)
  (hstart : ∀ W, Below w.heap.size w W → Inv W.heap.size W s0) (hgm : ∀ N0 W s, Inv N0 W s → Gm W g R T) (hstab : ∀ N0 W W' s, w.heap.size ≤ N0 → Inv N0 W s → Side w.heap.size N0 W W' → Inv N0 W' s)
  (hcall : ∀ N0 W s s' A c l, w.heap.size ≤ N0 → N0 ≤ W.heap.size → Inv N0 W s → Kd.C (Kd.int .i64) W A l.length l → l.length ≤ c → l.length = R.length → vis s l = some s' → Calls Try.prog fv (#[.slice A l.length c] ++ caps) W fun e W' => e = .returned (.tuple #[]) ∧ Inv N0 W' s' ∧ Mid w.heap.size N0 W W')
  (hR1 : 1 ≤ R.length) (hR : R.length ≤ 5) (hRl : ∀ i, (rd_L12 R i).length ≤ 5) (h : onF R vis R.length 0 (List.replicate R.length 0) s0 = some (ch1, s1)) :
  Calls Try.prog 59 #[.pointer (some ⟨g, 0, none⟩), .func (.func fv) #[] caps] w fun e W' => e = .returned (.tuple #[]) ∧ ∃ N0, w.heap.size ≤ N0 ∧ Inv N0 W' s1 := by
 have hmf : ∀ (fn : Fn) (first cap : Array Value) (w : World), (Instr.makeFunc fn first cap).run Try.prog w = .ok (.func fn first cap) w := fun _ _ _ _ => rfl
 have HG := Az0.mk (hgm _ _ _ (hstart w (Below.refl _ _)))
 have HST := Az0.mk hstart
 have HON := Az0.mk (fun N0 b4 b3 b2 b5 gc cp (hN : w.heap.size ≤ N0) => on_calls R T w.heap.size N0 b4 b3 b2 b5 gc cp g fv caps fn hfn hfn2 hfn3 vis (Inv N0) (hgm N0) (fun W W' s => hstab N0 W W' s hN) (fun W s s' A c l => hcall N0 W s s' A c l hN) hR hRl)
 have HH := Az0.mk h
 have HR1 := Az0.mk hR1
 have HR := Az0.mk hR
 have HB := Az0.mk (Below.refl w.heap.size w)
 have hn0 : decide ((0 : Int) ≤ (R.length : Int)) = true := decide_eq_true (by omega)
 clear hstart hgm hstab hcall hR1 hR hRl h hfn hfn2 hfn3
 go_enter Try.func59, Try.ntmps59
 go_upto_region 1 with (first | ((with_reducible refine gate_dst (N := 2) rfl ?_); refine box_event ?hg (N := 2) ?hd (cs := #[.pointer (some ⟨g, 0, none⟩)]) (t := 82) ?hr ?_; (case hd => rfl); (case hg => rfl); (case hr => first | (go_simp; done) | (go_simp; rfl)); intro b2 hg w1 hbox hb; have B2 := Az0.mk hbox; have M2 := Az0.mk (show w.heap.size ≤ b2 by rw [hg]; exact Nat.le_refl _); clear HB; have HB := Az0.mk hb; clear hg hbox hb) | ((with_reducible refine gate_dst (N := 3) rfl ?_); refine box_event ?hg (N := 3) ?hd (cs := #[.func (.func fv) #[] caps]) (t := 89) ?hr ?_; (case hd => rfl); (case hg => rfl); (case hr => first | (go_simp; done) | (go_simp; rfl)); intro b3 hg w2 hbox hb; have B3 := Az0.mk hbox; have M3 := Az0.mk (show w.heap.size ≤ b3 by rw [hg]; exact below_size HB.out); have n0_ := Az0.mk (below_step HB.out hb); have n1_ := Az0.mk (blk_below B2.out hb); clear HB B2; have HB := n0_; have B2 := n1_; clear n0_ n1_ hg hbox hb))
 have HG2 := Az0.mk (HG.out.below HB.out)
 obtain ⟨Ar, cr, Ap, cp2, q, g1, g2, g3, g4, g5, g6, g7⟩ := HG2.out.ex
 have hg_0 : w2.cell? ⟨g, 0, none⟩ = some (.slice Ar R.length cr) := (bkC g1 0).trans rfl
 have h2 : w2.cell? ⟨b2, 0, none⟩ = some (.pointer (some ⟨g, 0, none⟩)) := (bkC B2.out 0).trans rfl
 clear g1 g2 g3 g4 g5 g6 g7
 go_upto_region 2 with (first | ((with_reducible refine gate_dst (N := 11) rfl ?_); refine Kd.R_make (Kd.int .i64) (w0 := w) w.heap.size 3 rfl (N := 11) rfl 24 _ _ rfl (R.length : Int) rfl rfl Try.underlying24 (.int .i64 0) 8 info3 rfl (by decide) (by omega) 0 (ok := fun _ => True) (okp := fun _ => True) rfl (fun _ hk => hk) trivial (Int.natCast_nonneg _) (by have := HR.out; omega) HB.out (below_size HB.out) ?_; intro v11 w3 ho hb hg_ hnew_; have n0_ := Az0.mk (blk_grown B2.out hg_ (by simp)); have n1_ := Az0.mk (blk_grown B3.out hg_ (by simp)); have HO := Az0.mk ho; clear HB B2 B3 hg_0 h2; have HB := Az0.mk hb; have B2 := n0_; have B3 := n1_; clear n0_ n1_ ho hb hg_ hnew_; obtain ⟨gc, cp, hv11, hgc, hgc2, _⟩ := Kd.R_form HO.out (by rw [List.length_replicate]; have := HR1.out; omega); subst hv11; have MC := Az0.mk hgc; have MC2 := Az0.mk hgc2; clear hgc hgc2))
 obtain ⟨b4, hb4⟩ : ∃ b4, w3.heap.size = b4 := ⟨_, rfl⟩
 rw [hb4]
 obtain ⟨wq, hwq⟩ : ∃ wq, w3.alloc (.cells #[.slice (some ⟨gc, 0, none⟩) R.length cp] 24) = wq := ⟨_, rfl⟩
 rw [hwq]
 have n0_ : Below w3.heap.size w3 wq := hwq ▸ baA_ (Below.refl _ _) _
 have B4 := Az0.mk (hb4 ▸ hwq ▸ heap_alloc_new w3 _ : wq.heap[b4]? = some (.cells #[.slice (some ⟨gc, 0, none⟩) R.length cp] 24 (0, 0)))
 have M4 := Az0.mk (show w.heap.size ≤ b4 by rw [← hb4]; exact below_size HB.out)
 have n1_ := Az0.mk (below_step HB.out n0_)
 have n2_ := Az0.mk (blk_below B2.out n0_)
 have n3_ := Az0.mk (blk_below B3.out n0_)
 have n4_ := Az0.mk (Kd.R_below HO.out n0_)
 clear HB B2 B3 HO hwq hb4 n0_
 have HB := n1_; have B2 := n2_; have B3 := n3_; have HO := n4_
 clear n1_ n2_ n3_ n4_
 go_upto_region 4 with (fail)
 obtain ⟨b5, hb5⟩ : ∃ b5, wq.heap.size = b5 := ⟨_, rfl⟩
 rw [hb5]
 obtain ⟨wz, hwz⟩ : ∃ wz, wq.alloc (.cells #[.func (.func 91) #[] #[.pointer (some ⟨b4, 0, none⟩), .pointer (some ⟨b3, 0, none⟩), .pointer (some ⟨b2, 0, none⟩), .pointer (some ⟨b5, 0, none⟩)]] 119) = wz := ⟨_, rfl⟩
 rw [hwz]
 have n0_ : Below wq.heap.size wq wz := hwz ▸ baA_ (Below.refl _ _) _
 have B5 := Az0.mk (by have h_ := heap_alloc_new wq (.cells #[.func (.func 91) #[] #[.pointer (some ⟨b4, 0, none⟩), .pointer (some ⟨b3, 0, none⟩), .pointer (some ⟨b2, 0, none⟩), .pointer (some ⟨b5, 0, none⟩)]] 119); rw [hwz, hb5] at h_; exact h_ : wz.heap[b5]? = some (.cells #[.func (.func 91) #[] #[.pointer (some ⟨b4, 0, none⟩), .pointer (some ⟨b3, 0, none⟩), .pointer (some ⟨b2, 0, none⟩), .pointer (some ⟨b5, 0, none⟩)]] 119 (0, 0)))
 have M5 := Az0.mk (show w.heap.size ≤ b5 by rw [← hb5]; exact below_size HB.out)
 have n1_ := Az0.mk (below_step HB.out n0_)
 have n2_ := Az0.mk (blk_below B2.out n0_)
 have n3_ := Az0.mk (blk_below B3.out n0_)
 have n4_ := Az0.mk (Kd.R_below HO.out n0_)
 have n5_ := Az0.mk (blk_below B4.out n0_)
 clear HB B2 B3 HO B4 hwz hb5 n0_
 have HB := n1_; have B2 := n2_; have B3 := n3_; have HO := n4_; have B4 := n5_
 clear n1_ n2_ n3_ n4_ n5_
 have HE := Az0.mk (show AEnv wz w.heap.size wz.heap.size b4 b3 b2 b5 gc cp R.length g (.func (.func fv) #[] caps) (List.replicate R.length 0) from ⟨B4.out, B3.out, B2.out, B5.out, Kd.R_mono (Kd.R_tight rfl (by have := HO.out; simp only [Int.toNat_natCast, List.length_replicate] at this; exact this)) (fun k hk => by injection hk), ⟨M4.out, blk_lt B4.out⟩, ⟨M3.out, blk_lt B3.out⟩, ⟨M2.out, blk_lt B2.out⟩, ⟨M5.out, blk_lt B5.out⟩, ⟨MC.out, Kd.R_lt HO.out gc rfl⟩, Nat.le_refl _⟩)
 have HS := Az0.mk (HST.out wz HB.out)
 have h5 : wz.cell? ⟨b5, 0, none⟩ = some (.func (.func 91) #[] #[.pointer (some ⟨b4, 0, none⟩), .pointer (some ⟨b3, 0, none⟩), .pointer (some ⟨b2, 0, none⟩), .pointer (some ⟨b5, 0, none⟩)]) := (bkC B5.out 0).trans rfl
 go_wp2_with (first | (go_at_call 91; ((refine (HON.out wz.heap.size b4 b3 b2 b5 gc cp (below_size HB.out) R.length 0 (List.replicate R.length 0) ch1 s0 s1 wz (Nat.zero_add _) (List.length_replicate ..) HE.out HS.out HH.out).mono ?_); rintro e w5 ⟨rfl, _, _, hI⟩; have HI := Az0.mk hI; have HN := Az0.mk (below_size HB.out); clear hI h5)))
 go_end0
 try go_wp2
 first | exact ⟨_, HN.out, HI.out⟩ | exact ⟨by first | rfl | (simp; done), _, HN.out, HI.out⟩
end Go.Proofs.Ytjgbdicbdlollaa.B
namespace Go.Proofs.Ytjgbdicbdlollaa.B
open Go.RowKit Go.Proofs.YtjgbdicbdlollaaW.PrintWords Go.Proofs.YtjgbdicbdlollaaW.PrintLast Go.Proofs.YtjgbdicbdlollaaW.PrintMore
set_option linter.unusedVariables false
set_option linter.unusedSimpArgs false
def chL (F : List Int → List (List Int)) (now : List Int) : Nat → Nat → List (List Int) → List (List Int)
  | 0, _, out => out
  | m + 1, r, out => chL F now m (r + 1) (out ++ F (now ++ [(r : Int)]))
/-- All choices that begin with some routes. -/
def chF (R : List (List Int)) : Nat → List Int → List (List Int)
  | 0, now => [now]
  | f + 1, now => chL (fun c => chF R f c) now (rd_L12 R (now.length : Int)).length 0 []
theorem R_single {W : World} {B : Nat} {ok : Nat → Prop} {v : Value} {xs : List Int} (h : Kd.R (Kd.int .i64) 3 W B ok v xs) (hfresh : ok W.heap.size) (hbase : B ≤ W.heap.size) :
    Kd.R (Kd.slice 3 (Kd.int .i64)) 24 (W.alloc (.cells #[v] 24)) B ok (.slice (some ⟨W.heap.size, 0, none⟩) 1 1) [xs] := by
  have hrep : Reps ((Kd.slice 3 (Kd.int .i64)).M W B ok) 1 [xs] [v] := by
    have h2 := Reps.snoc (Reps.none ((Kd.slice 3 (Kd.int .i64)).M W B ok) 1) (p := xs) (c := [v]) ⟨v, rfl, h⟩ rfl
    simpa using h2
  refine ⟨fun k hk => ?_, [v], ?_, ?_⟩
  · have : W.heap.size = k := by simpa [Value.ownBlock] using hk
    subst this
    exact hfresh
  · exact World.ownsRow_lit (base := B) (e := 24) (size := 1) W #[v] 1 hbase (by simp [maxLen]) (by simp)
  · refine hrep.imp_ (fun p c hp => (Kd.slice 3 (Kd.int .i64)).M_mono (fun k hk => ⟨hk.1, fun he => ?_⟩) (Kd.M_below ((Kd.slice 3 (Kd.int .i64)).M_bound hp) (baA_ (Below.refl _ _) _)))
    have h3 : k = W.heap.size := by simpa [Value.ownBlock] using he
    have := hk.2.2.1
    omega
theorem run_cut (A : Option Addr) (n c : Nat) (hn : n ≤ c) : ∃ A' : Option Addr, (∀ W : World, (Instr.slice 24 (.slice A n c) none (some (.int .i64 (n : Int))) (some (.int .i64 (n : Int)))).run Try.prog W = .ok (.slice A' n n) W) ∧ ∀ (W : World) (xs : List Int), xs.length = n → Kd.C (Kd.int .i64) W A n xs → Kd.C (Kd.int .i64) W A' n xs := by
  refine ⟨if n = 0 then A else A.map (·.add (0 * 1)), fun W => ?_, fun W xs hx h => ?_⟩
  · have hel : Try.prog.elem 24 = 3 := by simp [Program.elem, Try.underlying24]
    have hu : Try.prog.underlying 24 = some (.slice (Try.prog.elem 24)) := by rw [hel]; exact Try.underlying24
    obtain ⟨i0, hi, hzz⟩ := Option.map_eq_some_iff.1 info3
    simp only [Prod.mk.injEq] at hzz
    rw [run_slice_hm W 24 A n c hu .i64 .i64 (n : Int) (n : Int) (Int.natCast_nonneg _) (Int.le_refl _) (by omega), hel]
    simp [sizeOf, typeInfo, hi, hzz.2.1, sliced, Result.andThen]
  · subst hx
    have := Kd.C_drop (m := 0) (c := xs.length) h (Nat.zero_le _) (Nat.le_refl _)
    simpa using this
theorem rowsM {W : World} {B B2 : Nat} {ok : Nat → Prop} {A : Option Addr} {n c : Nat} {xs : List (List Int)} (h : Kd.R (Kd.slice 3 (Kd.int .i64)) 24 W B ok (.slice A n c) xs) (hB : B2 ≤ B) : ReadsRow (fun x cs => (Kd.slice 3 (Kd.int .i64)).M W B2 ok x cs) 1 W A xs.length xs := by
  obtain ⟨_, inner, ho, hr⟩ := h
  obtain ⟨A', c', e, hrd⟩ := own_reads_row ho (hr.imp_ (fun p cs hp => (Kd.slice 3 (Kd.int .i64)).M_mono (fun k hk => hk.1) ((Kd.slice 3 (Kd.int .i64)).M_lower hB hp))) rfl
  injection e with e1 e2 e3
  subst e1
  exact hrd
theorem chL_len (F : List Int → List (List Int)) (now : List Int) (B : Nat) (h : ∀ c, (F c).length ≤ B) : ∀ m r out, (chL F now m r out).length ≤ out.length + m * B
  | 0, r, out => by simp [chL]
  | m + 1, r, out => by
    have h1 := chL_len F now B h m (r + 1) (out ++ F (now ++ [(r : Int)]))
    have h2 := h (now ++ [(r : Int)])
    rw [List.length_append] at h1
    rw [Nat.succ_mul]
    simp only [chL]
    omega
theorem chF_len (R : List (List Int)) (hR : ∀ i, (rd_L12 R i).length ≤ 5) : ∀ f now, (chF R f now).length ≤ 5 ^ f
  | 0, now => by simp [chF]
  | f + 1, now => by
    have h1 := chL_len (fun c => chF R f c) now (5 ^ f) (fun c => chF_len R hR f c) (rd_L12 R (now.length : Int)).length 0 []
    have h2 := Nat.mul_le_mul_right (5 ^ f) (hR (now.length : Int))
    have h3 : 5 ^ (f + 1) = 5 * 5 ^ f := by rw [Nat.pow_succ, Nat.mul_comm]
    simp only [chF, List.length_nil] at h1 ⊢
    omega
def choices.T7 : Bool × List (List Nat × List Nat) := (true, [([], []), ([], []), ([], []), ([], []), ([3], [3]), ([], []), ([5], [5]), ([2, 4, 6], [2, 4, 6]), ([], []), ([8], [8]), ([7, 9], [7, 9]), ([1, 10, 10], [1, 10]), ([0, 11, 11], [0, 11]), ([12, 12, 0, 1, 2, 3, 4, 5, 6, 7, 8, 9, 10, 11, 12], [0, 12])])
def choices.B7 : List Nat := [0, 0, 0, 0, 8, 0, 32, 124, 0, 256, 1020, 2046, 4095, 8191]
theorem choices.tab7 : rtab .any (opsOf Try.f68 7) = choices.T7 := by kernel_rfl
theorem choices.bits7 : waitsOk choices.T7.2 choices.B7 = true := by kernel_rfl
set_option maxHeartbeats 8000000 in
set_option maxRecDepth 100000 in
theorem ch_calls (R T : List (List Int)) (A0 : Option Addr) (c0 : Nat) (A1 : Option Addr) (c1 : Nat) (hR : R.length ≤ 5) (hRl : ∀ i, (rd_L12 R i).length ≤ 5) :
  ∀ (f : Nat) (now : List Int) (An : Option Addr) (cn B : Nat) (okn : Nat → Prop) (W : World), now.length + f = R.length → B ≤ W.heap.size → (∀ k, W.heap.size ≤ k → okn k) →
   Kd.C (Kd.slice 3 (Kd.int .i64)) W A0 R.length R → R.length ≤ c0 → Kd.C (Kd.slice 3 (Kd.int .i64)) W A1 T.length T → T.length ≤ c1 → Kd.C (Kd.int .i64) W An now.length now → now.length ≤ cn → (f = 0 → Kd.R (Kd.int .i64) 3 W B okn (.slice An now.length cn) now) →
   Calls Try.prog 68 #[.agg #[.slice A0 R.length c0, .slice A1 T.length c1], .slice An now.length cn] W fun e w' => ∃ v, e = .returned v ∧ Kd.R (Kd.slice 3 (Kd.int .i64)) 24 w' B okn v (chF R f now) ∧ Below W.heap.size W w' := by
 intro f
 induction f with
 | zero =>
  intro now An cn B okn W hf hBW hfr hR0 hC0 hR1 hC1 hN hNc hown
  have HO := Az0.mk (hown rfl)
  have HBW := Az0.mk hBW
  have HFR := Az0.mk hfr
  have HRL := Az0.mk hR
  have HB := Az0.mk (Below.refl W.heap.size W)
  obtain hl : now.length = R.length := by omega
  have e0 : ((now.length : Int) == (R.length : Int)) = true := beq_iff_eq.mpr (by omega)
  have e0b : decide ((now.length : Int) = (R.length : Int)) = true := decide_eq_true (by omega)
  have e0c : (now.length == R.length) = true := beq_iff_eq.mpr (by omega)
  have e0d : decide (now.length = R.length) = true := decide_eq_true (by omega)
  have HL := Az0.mk hl
  clear hown hBW hfr hR hRl hR0 hC0 hR1 hC1 hN hNc hf hl
  go_enter Try.func68, Try.ntmps68
  go_wp2_with (first | ((with_reducible refine gate_dst (N := 2) rfl ?_); refine box_event ?hg (N := 2) ?hd (cs := #[.slice A0 R.length c0, .slice A1 T.length c1]) (t := 41) ?hr ?_; (case hd => rfl); (case hg => rfl); (case hr => first | (go_simp; done) | (go_simp; rfl)); intro gb hg w1 hbox hb; have HO1 := Az0.mk (Kd.R_below HO.out hb); have n0_ := Az0.mk (below_step HB.out hb); clear HO HB; have HO := HO1; have HB := n0_; clear HO1 n0_; have hb_0 : w1.cell? ⟨gb, 0, none⟩ = some (.slice A0 R.length c0) := (bkC hbox 0).trans rfl; clear hb hbox hg))
  go_ret
  exact ⟨_, by first | rfl | (simp; done), R_single HO.out (HFR.out _ HB.out.size) (Nat.le_trans HBW.out HB.out.size), by repeat (first | (with_reducible first | exact HB.out | apply baA_ | apply pbN_ | apply bD1_) | exact HB.out)⟩

 | succ f ih =>
  intro now An cn B okn W hf hBW hfr hR0 hC0 hR1 hC1 hN hNc hown
  have HIH := Az0.mk ih
  have HBW := Az0.mk hBW
  have HFR := Az0.mk hfr
  have HRL := Az0.mk hRl
  have HR5 := Az0.mk hR
  have HF := Az0.mk hf
  have HR0 := Az0.mk hR0
  have HC0 := Az0.mk hC0
  have HR1 := Az0.mk hR1
  have HC1 := Az0.mk hC1
  have HN := Az0.mk hN
  have HNC := Az0.mk hNc
  have HB := Az0.mk (Below.refl W.heap.size W)
  have hi0 : (0 : Int) ≤ (now.length : Int) := Int.natCast_nonneg _
  have hi1 : (now.length : Int) < (R.length : Int) := by omega
  have hi2 : (now.length < R.length) = True := eq_true (by omega)
  obtain ⟨ad, A2, c2, e, hx, hc0, hC⟩ := at_L12 hR0 (now.length : Int) hi0 hi1
  cases e
  simp only [Int.toNat_natCast] at hx
  obtain ⟨m, hm⟩ : ∃ m, (rd_L12 R (now.length : Int)).length = m := ⟨_, rfl⟩
  have HM := Az0.mk (show m ≤ 5 by rw [← hm]; exact hRl _)
  rw [hm] at hx
  have HX := Az0.mk hx
  have e0 : ((now.length : Int) == (R.length : Int)) = false := beq_eq_false_iff_ne.mpr (by omega)
  have e0b : decide ((now.length : Int) = (R.length : Int)) = false := decide_eq_false (by omega)
  have e0c : (now.length == R.length) = false := beq_eq_false_iff_ne.mpr (by omega)
  have e0d : decide (now.length = R.length) = false := decide_eq_false (by omega)
  obtain ⟨A3, hcut, hcC⟩ := run_cut An now.length cn hNc
  have HCC := Az0.mk hcC
  have HFIN := Az0.mk (show chF R (f + 1) now = chL (fun c => chF R f c) now m 0 [] by simp only [chF]; rw [hm])
  clear ih hBW hfr hR hRl hR0 hC0 hR1 hC1 hN hNc hown hf hx hC hc0 hm hcC
  replace hi0 := eq_true hi0
  replace hi1 := eq_true hi1
  go_enter Try.func68, Try.ntmps68
  go_wp2_with (first | ((with_reducible refine gate_dst (N := 2) rfl ?_); refine box_event ?hg (N := 2) ?hd (cs := #[.slice (some ad) R.length c0, .slice A1 T.length c1]) (t := 41) ?hr ?_; (case hd => rfl); (case hg => rfl); (case hr => first | (go_simp; done) | (go_simp; rfl)); intro gb hg w1 hbox hb; have BB := Az0.mk hbox; have n0_ := Az0.mk (below_step HB.out hb); clear HB; have HB := n0_; clear n0_; have hb_0 : w1.cell? ⟨gb, 0, none⟩ = some (.slice (some ad) R.length c0) := (bkC BB.out 0).trans rfl; have GB := Az0.mk (by rw [hg]; exact Nat.le_refl _ : W.heap.size ≤ gb); clear hb hbox hg))
  clear hb_0
  go_loopg [5, 6] m (fun kq v5 v6 w' => ∃ (r : Nat) (o : List (List Int)), v6 = .int .i64 (r : Int) ∧ Az0 (r + kq = m) ∧ Az0 (chL (fun c => chF R f c) now kq r o = chL (fun c => chF R f c) now m 0 []) ∧ Az0 (Kd.R (Kd.slice 3 (Kd.int .i64)) 24 w' W.heap.size (fun k => W.heap.size ≤ k) v5 o) ∧ Az0 (o.length ≤ r * 5 ^ f) ∧ Az0 (Below W.heap.size W w') ∧ Az0 (w'.heap[gb]? = some (.cells #[.slice (some ad) R.length c0, .slice A1 T.length c1] 41 (0, 0))))
  case atStart => exact ⟨0, [], rfl, ⟨by simp⟩, ⟨rfl⟩, ⟨Kd.R_nil _ _ _ _ _⟩, ⟨by simp⟩, HB, BB⟩
  case round =>
   clear HB BB
   obtain ⟨r, o, rfl, HK, HH, HO, HOL, HB, BB⟩ := hrel
   have hb_0 : wr.cell? ⟨gb, 0, none⟩ = some (.slice (some ad) R.length c0) := (bkC BB.out 0).trans rfl
   have hx : wr.cell? (ad.add now.length) = some (.slice A2 m c2) := pw_cell_below HB.out HX.out
   obtain ⟨Ao, co, eo⟩ := Kd.R_slice HO.out
   subst eo
   cases gk with
   | zero =>
    have c4b : decide ((r : Int) < (m : Int)) = false := decide_eq_false (by have := HK.out; omega)
    have c4b2 : decide (r < m) = false := decide_eq_false (by have := HK.out; omega)
    have hh := HH.out
    simp only [chL] at hh
    have HHH := Az0.mk hh
    clear hh HH
    go_wp2
    go_ret
    exact ⟨_, by first | rfl | (simp; done), by rw [HFIN.out]; simp only [chL]; rw [← HHH.out]; exact Kd.R_mono (Kd.R_lower HO.out HBW.out) (fun k hk => HFR.out k hk), by repeat (first | (with_reducible first | exact HB.out | apply baA_ | apply pbN_ | apply bD1_) | exact HB.out)⟩
   | succ k1 =>
    have c4b : decide ((r : Int) < (m : Int)) = true := decide_eq_true (by have := HK.out; omega)
    have c4b2 : decide (r < m) = true := decide_eq_true (by have := HK.out; omega)
    go_upto_region 7 with (fail)
    clear hb_0 hx
    have n0_ := Az0.mk (below_step HB.out (bD1_ (Below.refl _ wr)))
    have n1_ := Az0.mk (blk_below BB.out (bD1_ (Below.refl _ wr)))
    have n2_ := Az0.mk (Kd.R_below HO.out (bD1_ (Below.refl _ wr)))
    clear HB BB HO
    have HB := n0_; have BB := n1_; have HO := n2_
    clear n0_ n1_ n2_
    refine start_ (n := 14) (S := fun w' => w'.cell? ⟨gb, 0, none⟩ = some (.slice (some ad) R.length c0) ∧ w'.cell? ⟨gb, 1, none⟩ = some (.slice A1 T.length c1)) (ds := []) #[false, false, false, false, false, false, false, false, false, false, false, false, false, false] (by kernel_rfl) rfl rfl ⟨(bkC BB.out 0).trans rfl, (bkC BB.out 1).trans rfl⟩ (fun hHeld => ?_); refine with_tabW choices.tab7 choices.bits7 (fun HT_ HW_ => ?_)
    generalize World.drew _ = wd at HB BB HO hHeld ⊢
    refine pure_ (i := 0) (N := some 26) (v := ?_) (a' := ?_) #[true, false, false, false, false, false, false, false, false, false, false, false, false, false] rfl rfl (any_of HT_.out (by kernel_rfl)) (fun _ _ _ h => h) (Or.inl ⟨by rfl, ?_⟩) ?_ ?_
    rotate_left
    ·intro w'
     go_simp
     first | with_reducible rfl | rfl
    rotate_left
    ·simp only [Act.put, List.setIfInBounds_toArray, List.set_cons_zero, List.set_cons_succ, i64_w, i32_w]
     rfl
    refine take_ (i := 1) (N := some 27) (v := ?_) (a' := ?_) #[true, true, false, false, false, false, false, false, false, false, false, false, false, false] rfl rfl (take_ofW HT_.out HW_.out (by kernel_rfl)) (fun _ _ _ h => h) (Or.inl ⟨by rfl, ?_⟩) hHeld ?_ ?_
    rotate_left
    ·rintro w' ⟨s0, s1⟩
     go_simp
     first | with_reducible rfl | rfl
    rotate_left
    ·simp only [Act.put, List.setIfInBounds_toArray, List.set_cons_zero, List.set_cons_succ, i64_w, i32_w]
     rfl
    refine pure_ (i := 2) (N := some 28) (v := ?_) (a' := ?_) #[true, true, true, false, false, false, false, false, false, false, false, false, false, false] rfl rfl (any_of HT_.out (by kernel_rfl)) (fun _ _ _ h => h) (Or.inl ⟨by rfl, ?_⟩) ?_ ?_
    rotate_left
    ·intro w'
     go_simp
     first | with_reducible rfl | rfl
    rotate_left
    ·simp only [Act.put, List.setIfInBounds_toArray, List.set_cons_zero, List.set_cons_succ, i64_w, i32_w]
     rfl
    refine pure_ (i := 3) (N := some 29) (v := ?_) (a' := ?_) #[true, true, true, true, false, false, false, false, false, false, false, false, false, false] rfl rfl (any_of HT_.out (by kernel_rfl)) (fun _ _ _ h => h) (Or.inl ⟨by rfl, ?_⟩) ?_ ?_
    rotate_left
    ·intro w'
     go_simp
     first | with_reducible rfl | rfl
    rotate_left
    ·simp only [Act.put, List.setIfInBounds_toArray, List.set_cons_zero, List.set_cons_succ, i64_w, i32_w]
     rfl
    refine pure_ (i := 4) (N := some 30) (v := ?_) (a' := ?_) #[true, true, true, true, true, false, false, false, false, false, false, false, false, false] rfl rfl (any_of HT_.out (by kernel_rfl)) (fun _ _ _ h => h) (Or.inl ⟨by rfl, ?_⟩) ?_ ?_
    rotate_left
    ·intro w'
     go_simp
     first | with_reducible rfl | rfl
    rotate_left
    ·simp only [Act.put, List.setIfInBounds_toArray, List.set_cons_zero, List.set_cons_succ, i64_w, i32_w]
     rfl
    refine pure_ (i := 5) (N := some 31) (v := ?_) (a' := ?_) #[true, true, true, true, true, true, false, false, false, false, false, false, false, false] rfl rfl (any_of HT_.out (by kernel_rfl)) (fun _ _ _ h => h) (Or.inl ⟨by rfl, ?_⟩) ?_ ?_
    rotate_left
    ·intro w'
     go_simp
     first | with_reducible rfl | rfl
    rotate_left
    ·simp only [Act.put, List.setIfInBounds_toArray, List.set_cons_zero, List.set_cons_succ, i64_w, i32_w]
     rfl
    refine pure_ (i := 6) (N := some 32) (v := ?_) (a' := ?_) #[true, true, true, true, true, true, true, false, false, false, false, false, false, false] rfl rfl (any_of HT_.out (by kernel_rfl)) (fun _ _ _ h => h) (Or.inl ⟨by rfl, ?_⟩) ?_ ?_
    rotate_left
    ·intro w'
     go_simp
     first | with_reducible rfl | rfl
    rotate_left
    ·simp only [Act.put, List.setIfInBounds_toArray, List.set_cons_zero, List.set_cons_succ, i64_w, i32_w]
     rfl
    refine pure_ (i := 7) (N := some 33) (v := ?_) (a' := ?_) #[true, true, true, true, true, true, true, true, false, false, false, false, false, false] rfl rfl (any_of HT_.out (by kernel_rfl)) (fun _ _ _ h => h) (Or.inl ⟨by rfl, ?_⟩) ?_ ?_
    rotate_left
    ·intro w'
     go_simp
     first | with_reducible rfl | rfl
    rotate_left
    ·simp only [Act.put, List.setIfInBounds_toArray, List.set_cons_zero, List.set_cons_succ, i64_w, i32_w]
     rfl
    refine pure_ (i := 8) (N := some 34) (v := ?_) (a' := ?_) #[true, true, true, true, true, true, true, true, true, false, false, false, false, false] rfl rfl (any_of HT_.out (by kernel_rfl)) (fun _ _ _ h => h) (Or.inl ⟨by rfl, ?_⟩) ?_ ?_
    rotate_left
    ·intro w'
     go_simp
     first | with_reducible rfl | rfl
    rotate_left
    ·simp only [Act.put, List.setIfInBounds_toArray, List.set_cons_zero, List.set_cons_succ, i64_w, i32_w]
     rfl
    refine one_ (i := 9) (N := some 35) #[true, true, true, true, true, true, true, true, true, true, false, false, false, false] rfl rfl (one_of HT_.out (by kernel_rfl)) (by decide) (fun K hK => ?_)
    refine value_ (w1 := ?_) (v := ?_) (by rfl) rfl ?_ ?_
    rotate_left 2
    ·go_simp
     constructor
     ·rfl
     ·rfl
    refine hK.out _ _ ⟨(bkC (blk_alloc BB.out _) 0).trans rfl, (bkC (blk_alloc BB.out _) 1).trans rfl⟩ (fun hHeld => ?_)
    clear hK K
    refine norm_ (a' := ?_) ?_ ?_
    rotate_left
    ·show Act.put _ (some 35) _ = _
     simp only [Act.put, List.setIfInBounds_toArray, List.set_cons_zero, List.set_cons_succ, i64_w, i32_w]
     rfl
    refine one_ (i := 10) (N := some 36) #[true, true, true, true, true, true, true, true, true, true, true, false, false, false] rfl rfl (one_of HT_.out (by kernel_rfl)) (by decide) (fun K hK => ?_)
    refine cutapp_step (by rfl) (.tmp 33) (.tmp 35) rfl (W := wd) (A := A3) (xs := now) (p := (r : Int)) (by rfl) (by rfl) (HCC.out _ _ rfl (Kd.C_below HN.out HB.out)) (by have := HF.out; have := HR5.out; omega) ?_
    intro v2 w2 ho hb
    obtain ⟨An2, cn2, e2⟩ := Kd.R_slice ho
    subst e2
    have HO2 := Az0.mk ho
    have n0_ := Az0.mk (below_step HB.out hb)
    have n1_ := Az0.mk (blk_below BB.out hb)
    have n2_ := Az0.mk (Kd.R_below HO.out hb)
    have HLT := Az0.mk (show ∀ k_, (Value.slice Ao o.length co).ownBlock = some k_ → k_ < wd.heap.size by obtain ⟨inner, ho_⟩ := Kd.R_own HO.out; exact own_lt ho_)
    have HWD := Az0.mk (show W.heap.size ≤ wd.heap.size from HB.out.size)
    have HSZ := Az0.mk hb.size
    clear HB BB HO ho hb
    have HB := n0_; have BB := n1_; have HO := n2_
    clear n0_ n1_ n2_
    refine hK.out _ _ ⟨(bkC BB.out 0).trans rfl, (bkC BB.out 1).trans rfl⟩ (fun hHeld => ?_)
    clear hK K
    refine norm_ (a' := ?_) ?_ ?_
    rotate_left
    ·show Act.put _ (some 36) _ = _
     simp only [Act.put, List.setIfInBounds_toArray, List.set_cons_zero, List.set_cons_succ, i64_w, i32_w]
     rfl
    refine one_ (i := 11) (N := some 37) #[true, true, true, true, true, true, true, true, true, true, true, true, false, false] rfl rfl (one_of HT_.out (by kernel_rfl)) (by decide) (fun K hK => ?_)
    refine goes_ Try.func68 (by kernel_rfl) rfl #[.agg #[.slice (some ad) R.length c0, .slice A1 T.length c1], .slice An2 (now ++ [(r : Int)]).length cn2] (by rfl) rfl rfl (by (try simp only [List.map_toArray, List.map_cons, List.map_nil]); first | done | rfl) ?_
    refine (HIH.out (now ++ [(r : Int)]) An2 cn2 wd.heap.size (fun k => wd.heap.size ≤ k) w2 (by have := HF.out; simp; omega) HSZ.out (fun k hk => Nat.le_trans HSZ.out hk) (Kd.C_below HR0.out HB.out) HC0.out (Kd.C_below HR1.out HB.out) HC1.out (Kd.R_reads' HO2.out).2.2 (Kd.R_reads' HO2.out).2.1 (fun _ => Kd.R_mono (Kd.R_bound HO2.out) (fun k hk => hk.2.1))).mono ?_
    rintro e w3 ⟨v3, rfl, ho, hb⟩
    obtain ⟨A4, c4, e4⟩ := Kd.R_slice ho
    subst e4
    refine ⟨_, rfl, ?_⟩
    have HO3 := Az0.mk ho
    have n0_ := Az0.mk (below_step HB.out hb)
    have n1_ := Az0.mk (blk_below BB.out hb)
    have n2_ := Az0.mk (Kd.R_below HO.out hb)
    have HSZ3 := Az0.mk (Nat.le_trans HSZ.out hb.size)
    clear HB BB HO HO2 ho hb
    have HB := n0_; have BB := n1_; have HO := n2_
    clear n0_ n1_ n2_
    refine hK.out _ _ ⟨(bkC BB.out 0).trans rfl, (bkC BB.out 1).trans rfl⟩ (fun hHeld => ?_)
    clear hK K
    refine norm_ (a' := ?_) ?_ ?_
    rotate_left
    ·show Act.put _ (some 37) _ = _
     simp only [Act.put, List.setIfInBounds_toArray, List.set_cons_zero, List.set_cons_succ, i64_w, i32_w]
     rfl
    refine one_ (i := 12) (N := some 38) #[true, true, true, true, true, true, true, true, true, true, true, true, true, false] rfl rfl (one_of HT_.out (by kernel_rfl)) (by decide) (fun K hK => ?_)
    obtain ⟨h3o, inner3, hw3, hr3⟩ := id HO3.out
    have HL5 := Az0.mk (chF_len R HRL.out f (now ++ [(r : Int)]))
    have HP5 := Az0.mk (show 5 ^ f ≤ 3125 from Nat.le_trans (Nat.pow_le_pow_right (by omega) (show f ≤ 5 by have := HF.out; have := HR5.out; omega)) (by decide))
    have HM5 := Az0.mk (show r * 5 ^ f ≤ 5 * 3125 from Nat.mul_le_mul (by have := HK.out; have := HM.out; omega) HP5.out)
    refine Kd.R_append_rows_step (Kd.slice 3 (Kd.int .i64)) (Rr := fun x cs => (Kd.slice 3 (Kd.int .i64)).M w3 W.heap.size (fun k => wd.heap.size ≤ k) x cs) (w0 := W) W.heap.size (by rfl) (.tmp 26) (.tmp 37) 39 24 (.slice none 0 0) 24 rfl Try.underlying39 info24 rfl (by decide) (by decide) (.slice Ao o.length co) o (chF R f (now ++ [(r : Int)])) A4 (chF R f (now ++ [(r : Int)])).length c4 (fun k => W.heap.size ≤ k) (fun k => wd.heap.size ≤ k) rfl rfl HO.out ?aR (fun _ _ h => h) (fun k hk => ⟨Nat.le_trans HWD.out hk, fun e => absurd (HLT.out k e.symm) (by omega)⟩) (fun k hk => Nat.le_trans HB.out.size hk) HB.out HB.out.size (by have := HL5.out; have := HOL.out; have := HP5.out; have := HM5.out; omega) ?_
    (case aR => exact rowsM HO3.out HWD.out)
    intro v9 w9 ho hb hg hat
    have hb9 := blk_grown BB.out hg (Kd.R_ne HO.out BB.out (by decide))
    obtain ⟨A9, c9, e9⟩ := Kd.R_slice ho
    subst e9
    have HO9 := Az0.mk ho
    have HB9 := Az0.mk hb
    have BB9 := Az0.mk hb9
    clear HB BB HO HO3 ho hb hg hat hb9 h3o hw3 hr3
    refine hK.out _ _ ⟨(bkC BB9.out 0).trans rfl, (bkC BB9.out 1).trans rfl⟩ (fun hHeld => ?_)
    clear hK K
    refine norm_ (a' := ?_) ?_ ?_
    rotate_left
    ·show Act.put _ (some 38) _ = _
     simp only [Act.put, List.setIfInBounds_toArray, List.set_cons_zero, List.set_cons_succ, i64_w, i32_w]
     rfl
    refine pure_ (i := 13) (N := some 5) (v := ?_) (a' := ?_) #[true, true, true, true, true, true, true, true, true, true, true, true, true, true] rfl rfl (any_of HT_.out (by kernel_rfl)) (fun _ _ _ h => h) (Or.inl ⟨by rfl, ?_⟩) ?_ ?_
    rotate_left
    ·intro w'
     go_simp
     first | with_reducible rfl | rfl
    rotate_left
    ·simp only [Act.put, List.setIfInBounds_toArray, List.set_cons_zero, List.set_cons_succ, i64_w, i32_w]
     rfl
    refine done_ (done_of HT_.out (by kernel_rfl)) ?_
    try go_wp2
    go_roundg k1
    case measure => omega
    case rel => exact ⟨r + 1, o ++ chF R f (now ++ [(r : Int)]), val_succ r (by have := HK.out; have := HM.out; omega), ⟨by have := HK.out; omega⟩, ⟨by have := HH.out; simp only [chL] at this; exact this⟩, ⟨by simpa only [List.length_append] using HO9.out⟩, ⟨by have := HL5.out; have := HOL.out; rw [List.length_append, Nat.succ_mul]; omega⟩, HB9, BB9⟩
def trishawref02_choices.f (R T : List (List Int)) (now : List Int) : Option (List (List Int)) :=
  if now = [] ∧ 1 ≤ R.length ∧ R.length ≤ 5 ∧ (R.all fun x => decide (x.length ≤ 5)) = true then some (chF R R.length []) else none
theorem all5 {R : List (List Int)} (h : (R.all fun x => decide (x.length ≤ 5)) = true) (i : Int) : (rd_L12 R i).length ≤ 5 := by
  by_cases hi : i.toNat < R.length
  · have e : rd_L12 R i = R[i.toNat] := by simp [rd_L12, List.getD, List.getElem?_eq_getElem hi]
    rw [e]
    exact of_decide_eq_true (List.all_eq_true.1 h _ (List.getElem_mem hi))
  · have e : rd_L12 R i = [] := by simp [rd_L12, List.getD, List.getElem?_eq_none (Nat.le_of_not_lt hi)]
    rw [e]; simp
theorem trishawref02_choices.calls (A0_0 : Option Addr) (c0_0 : Nat) (l0_0 : List (List Int)) (A0_1 : Option Addr) (c0_1 : Nat) (l0_1 : List (List Int)) (A1 : Option Addr) (c1 : Nat) (l1 : List Int) (r : List (List Int)) (w : World) (hr0_0 : Kd.C (Kd.slice 3 (Kd.int .i64)) w A0_0 l0_0.length l0_0) (hc0_0 : l0_0.length ≤ c0_0) (hr0_1 : Kd.C (Kd.slice 3 (Kd.int .i64)) w A0_1 l0_1.length l0_1) (hc0_1 : l0_1.length ≤ c0_1) (hr1 : Kd.C (Kd.int .i64) w A1 l1.length l1) (hc1 : l1.length ≤ c1) (h : trishawref02_choices.f l0_0 l0_1 l1 = some r) :
    Calls Try.prog 68 #[.agg #[.slice A0_0 l0_0.length c0_0, .slice A0_1 l0_1.length c0_1], .slice A1 l1.length c1] w fun e w' => ∃ v0_ : Value, e = .returned (v0_) ∧ Kd.R (Kd.slice 3 (Kd.int .i64)) 24 w' w.heap.size (fun _ => True) v0_ r ∧ Below w.heap.size w w' := by
  unfold trishawref02_choices.f at h
  split at h
  case isFalse => exact absurd h (by simp)
  rename_i hc
  obtain ⟨rfl, h1, h2, h3⟩ := hc
  obtain rfl := Option.some.inj h
  exact ch_calls l0_0 l0_1 A0_0 c0_0 A0_1 c0_1 h2 (all5 h3) l0_0.length [] A1 c1 w.heap.size (fun _ => True) w (by simp) (Nat.le_refl _) (fun _ _ => trivial) hr0_0 hc0_0 hr0_1 hc0_1 hr1 hc1 (fun h => by omega)
end Go.Proofs.Ytjgbdicbdlollaa.B
namespace Go.Proofs.Ytjgbdicbdlollaa.B
open Go.RowKit Go.Proofs.YtjgbdicbdlollaaW.PrintWords Go.Proofs.YtjgbdicbdlollaaW.PrintLast Go.Proofs.YtjgbdicbdlollaaW.PrintMore
attribute [local go_sem] max2_int min2_int max_two min_two max_three min_three max_four min_four   -- for this text's walks alone
set_option linter.unusedVariables false
set_option linter.unusedSimpArgs false
def trishawref02_Best.l0 : Nat → List (List Int) → Int → Int → Int → List (List Int) → List (List Int) → Option (List Int × Int × Int)
  | 0, _, _, _, _, _, _ => none
  | k + 1, x5, x6, x7, x8, x116000, x116001 => if x8 < (x5.length : Int) then (if 0 ≤ x8 then ((trishawref02_total.f k x116000 x116001 (rd_L12 x5 x8)).bind fun t123 => (if t123 < x7 then (trishawref02_Best.l0 k x5 x8 t123 (wrap64 (x8 + 1)) x116000 x116001) else (trishawref02_Best.l0 k x5 x6 x7 (wrap64 (x8 + 1)) x116000 x116001))) else (none)) else (if 0 ≤ x6 then (if x6 < (x5.length : Int) then (some (rd_L12 x5 x6, x7, 0)) else (none)) else (none))
def trishawref02_Best.f (k : Nat) (l0_0 : List (List Int)) (l0_1 : List (List Int)) : Option (List Int × Int × Int) := (trishawref02_IsGame.f k l0_0 l0_1).bind fun t116 => (if t116 = true then ((trishawref02_choices.f l0_0 l0_1 ([] : List Int)).bind fun t117 => (if 0 < (t117.length : Int) then ((trishawref02_total.f k l0_0 l0_1 (rd_L12 t117 0)).bind fun t121 => (trishawref02_Best.l0 k t117 0 t121 1 l0_0 l0_1)) else (none))) else (some (([] : List Int), 0, 2)))
set_option maxHeartbeats 8000000 in
set_option maxRecDepth 100000 in
theorem trishawref02_Best.calls (k : Nat) (A0_0 : Option Addr) (c0_0 : Nat) (l0_0 : List (List Int)) (A0_1 : Option Addr) (c0_1 : Nat) (l0_1 : List (List Int)) (r1 : List Int) (r2 : Int) (r3 : Int) (w : World) (hr0_0 : Kd.C (Kd.slice 3 (Kd.int .i64)) w A0_0 l0_0.length l0_0) (hc0_0 : l0_0.length ≤ c0_0) (hr0_1 : Kd.C (Kd.slice 3 (Kd.int .i64)) w A0_1 l0_1.length l0_1) (hc0_1 : l0_1.length ≤ c0_1) (h : trishawref02_Best.f k l0_0 l0_1 = some (r1, r2, r3)) :
  Calls Try.prog 38 #[.agg #[.slice A0_0 l0_0.length c0_0, .slice A0_1 l0_1.length c0_1]] w fun e w' => ∃ v0_ : Value, e = .returned (.tuple #[v0_, .int .i64 r2, .int .i64 r3]) ∧ Kd.R (Kd.int .i64) 3 w' w.heap.size (fun _ => True) v0_ r1 ∧ Below w.heap.size w w' := by
 have hu41 := Try.underlying41
 have HR0_0 := Az0.mk hr0_0
 have HC0_0 := Az0.mk hc0_0
 clear hr0_0 hc0_0
 have HR0_1 := Az0.mk hr0_1
 have HC0_1 := Az0.mk hc0_1
 clear hr0_1 hc0_1
 have HB := Az0.mk (Below.refl w.heap.size w)
 have H : ((trishawref02_IsGame.f k l0_0 l0_1).bind fun t116 => (if t116 = true then ((trishawref02_choices.f l0_0 l0_1 ([] : List Int)).bind fun t117 => (if 0 < (t117.length : Int) then ((trishawref02_total.f k l0_0 l0_1 (rd_L12 t117 0)).bind fun t121 => (trishawref02_Best.l0 k t117 0 t121 1 l0_0 l0_1)) else (none))) else (some (([] : List Int), 0, 2)))) = some (r1, r2, r3) := h
 clear h
 replace H := Option.bind_eq_some_iff.mp H
 obtain ⟨t116, A20, H⟩ := H
 replace H : (if t116 = true then ((trishawref02_choices.f l0_0 l0_1 ([] : List Int)).bind fun t117 => (if 0 < (t117.length : Int) then ((trishawref02_total.f k l0_0 l0_1 (rd_L12 t117 0)).bind fun t121 => (trishawref02_Best.l0 k t117 0 t121 1 l0_0 l0_1)) else (none))) else (some (([] : List Int), 0, 2))) = some (r1, r2, r3) := H
 have A2 := Az0.mk A20
 clear A20
 by_cases c3 : t116 = true
 ·subst c3
  have H1 : ((trishawref02_choices.f l0_0 l0_1 ([] : List Int)).bind fun t117 => (if 0 < (t117.length : Int) then ((trishawref02_total.f k l0_0 l0_1 (rd_L12 t117 0)).bind fun t121 => (trishawref02_Best.l0 k t117 0 t121 1 l0_0 l0_1)) else (none))) = some (r1, r2, r3) := by rw [if_pos rfl] at H; exact H
  clear H
  have H := H1
  clear H1
  replace H := Option.bind_eq_some_iff.mp H
  obtain ⟨t117, A40, H⟩ := H
  replace H : (if 0 < (t117.length : Int) then ((trishawref02_total.f k l0_0 l0_1 (rd_L12 t117 0)).bind fun t121 => (trishawref02_Best.l0 k t117 0 t121 1 l0_0 l0_1)) else (none)) = some (r1, r2, r3) := H
  have A4 := Az0.mk A40
  clear A40
  by_cases c5 : 0 < (t117.length : Int)
  ·rw [if_pos c5] at H
   have c5b0 : decide (0 < (t117.length : Int)) = true := decide_eq_true c5
   have c5b1 : decide (0 < t117.length) = true := decide_eq_true (by omega)
   clear c5
   replace H := Option.bind_eq_some_iff.mp H
   obtain ⟨t121, A60, H⟩ := H
   replace H : (trishawref02_Best.l0 k t117 0 t121 1 l0_0 l0_1) = some (r1, r2, r3) := H
   have A6 := Az0.mk A60
   clear A60
   have H' := Az0.mk H
   clear H
   go_enter Try.func38, Try.ntmps38
   try go_wp2_with (first | ((with_reducible refine gate_dst (N := 1) rfl ?_); refine box_event ?hg (N := 1) ?hd (cs := #[.slice A0_0 l0_0.length c0_0, .slice A0_1 l0_1.length c0_1]) (t := 41) ?hr ?_; (case hd => rfl); (case hg => rfl); (case hr => first | (go_simp; done) | (go_simp; rfl)); intro gb115 hg w7 hbox hb; have n0_ := Az0.mk (below_step (by repeat (first | (with_reducible first | exact HB.out | apply baA_ | apply pbN_ | apply bD1_) | exact HB.out)) hb); have n1_ := Az0.mk (hbox); have n2_ := Az0.mk ((by rw [hg]; exact (below_size (by repeat (first | (with_reducible first | exact HB.out | apply baA_ | apply pbN_ | apply bD1_) | exact HB.out))) : w.heap.size ≤ gb115)); have n3_ := Az0.mk ((by rw [hg]; exact (below_size (by repeat (first | (with_reducible first | exact HB.out | apply baA_ | apply pbN_ | apply bD1_) | exact HB.out))) : w.heap.size ≤ gb115)); clear HB; have HB := n0_; have BK115 := n1_; have GW115 := n2_; have GE115 := n3_; clear n0_ n1_ n2_ n3_; clear hb hbox hg; have hcz8_0 : w7.cell? ⟨gb115, 0, none⟩ = some (.slice A0_0 l0_0.length c0_0) := (bkC BK115.out 0).trans rfl; have hcz8_1 : w7.cell? ⟨gb115, 1, none⟩ = some (.slice A0_1 l0_1.length c0_1) := (bkC BK115.out 1).trans rfl; have hfz8_0 := blk_frozen BK115.out 0; have hfz8_1 := blk_frozen BK115.out 1) | ((with_reducible refine gate_callee (f := 25) rfl ?_); refine goesL_ (some 11) rfl rfl Try.func25 (by kernel_rfl) rfl #[.agg #[.slice A0_0 l0_0.length c0_0, .slice A0_1 l0_1.length c0_1]] rfl (by (try simp only [List.map_toArray, List.map_cons, List.map_nil]); first | done | rfl | (simp only [List.length_drop, List.length_take]; rfl)) ?_; (with_reducible refine (trishawref02_IsGame.calls k _ _ l0_0 _ _ l0_1 true _ ?side1 ?side2 ?side3 ?side4 A2.out).mono ?_); (case side1 => repeat (first | exact (Kd.C_below HR0_0.out HB.out) | (with_reducible refine Kd.C_alloc ?_ _) | (with_reducible refine Kd.C_drewN ?_ _) | (with_reducible refine Kd.C_drew ?_))); (case side2 => exact HC0_0.out); (case side3 => repeat (first | exact (Kd.C_below HR0_1.out HB.out) | (with_reducible refine Kd.C_alloc ?_ _) | (with_reducible refine Kd.C_drewN ?_ _) | (with_reducible refine Kd.C_drew ?_))); (case side4 => exact HC0_1.out); rintro e w9 ⟨rfl, hb⟩; refine ⟨_, rfl, ?_⟩; have n0_ := Az0.mk (blk_below (g := gb115) (o := .cells #[.slice A0_0 l0_0.length c0_0, .slice A0_1 l0_1.length c0_1] 41 (0, 0)) (by (with_reducible repeat (first | refine blk_drewN ?_ _ | refine blk_drew ?_ | refine blk_alloc ?_ _)); exact BK115.out) hb); have n1_ := Az0.mk (below_step (by repeat (first | (with_reducible first | exact HB.out | apply baA_ | apply pbN_ | apply bD1_ | refine below_set ?_ GE115.out) | exact HB.out)) hb); clear BK115; clear HB; have BK115 := n0_; have HB := n1_; clear n0_ n1_; (try clear hb); (try clear hb2); (try clear hk); (try clear hi); have hcz10_0 : w9.cell? ⟨gb115, 0, none⟩ = some (.slice A0_0 l0_0.length c0_0) := (bkC BK115.out 0).trans rfl; have hcz10_1 : w9.cell? ⟨gb115, 1, none⟩ = some (.slice A0_1 l0_1.length c0_1) := (bkC BK115.out 1).trans rfl; have hfz10_0 := blk_frozen BK115.out 0; have hfz10_1 := blk_frozen BK115.out 1) | ((with_reducible refine gate_callee (f := 68) rfl ?_); refine goesL_ (some 14) rfl rfl Try.func68 (by kernel_rfl) rfl #[.agg #[.slice A0_0 l0_0.length c0_0, .slice A0_1 l0_1.length c0_1], .slice none 0 0] rfl (by (try simp only [List.map_toArray, List.map_cons, List.map_nil]); first | done | rfl | (simp only [List.length_drop, List.length_take]; rfl)) ?_; (refine (trishawref02_choices.calls _ _ l0_0 _ _ l0_1 _ _ ([] : List Int) t117 _ ?side1 ?side2 ?side3 ?side4 ?side5 ?side6 A4.out).mono ?_); (case side1 => repeat (first | exact (Kd.C_below HR0_0.out HB.out) | (with_reducible refine Kd.C_alloc ?_ _) | (with_reducible refine Kd.C_drewN ?_ _) | (with_reducible refine Kd.C_drew ?_))); (case side2 => exact HC0_0.out); (case side3 => repeat (first | exact (Kd.C_below HR0_1.out HB.out) | (with_reducible refine Kd.C_alloc ?_ _) | (with_reducible refine Kd.C_drewN ?_ _) | (with_reducible refine Kd.C_drew ?_))); (case side4 => exact HC0_1.out); (case side5 => exact Kd.C_nil _ _); (case side6 => exact Nat.le_refl _); rintro e w11 ⟨v118, rfl, ho0, hb⟩; refine ⟨_, rfl, ?_⟩; have n0_ := Az0.mk (Kd.R_lower ho0 (below_size (by repeat (first | (with_reducible first | exact HB.out | apply baA_ | apply pbN_ | apply bD1_ | refine below_set ?_ GE115.out) | exact HB.out)))); have n1_ := Az0.mk (blk_below (g := gb115) (o := .cells #[.slice A0_0 l0_0.length c0_0, .slice A0_1 l0_1.length c0_1] 41 (0, 0)) (by (with_reducible repeat (first | refine blk_drewN ?_ _ | refine blk_drew ?_ | refine blk_alloc ?_ _)); exact BK115.out) hb); have n2_ := Az0.mk (below_step (by repeat (first | (with_reducible first | exact HB.out | apply baA_ | apply pbN_ | apply bD1_ | refine below_set ?_ GE115.out) | exact HB.out)) hb); clear BK115; clear HB; have HO119 := n0_; have BK115 := n1_; have HB := n2_; clear n0_ n1_ n2_; (try clear hb); (try clear hb2); (try clear hk); (try clear hi); (try clear ho0)))
   have n0_ := Az0.mk (Kd.R_drew HO119.out)
   have n1_ := Az0.mk (blk_drew BK115.out)
   have n2_ := Az0.mk (bD1_ HB.out)
   clear HO119
   clear BK115
   clear HB
   have HO119 := n0_
   have BK115 := n1_
   have HB := n2_
   clear n0_ n1_ n2_
   obtain ⟨Ao13, co13, eo13⟩ := Kd.R_slice HO119.out
   (first | subst eo13 | (injection eo13 with f1_ f2_ f3_; have f4_ := f1_.symm; have f5_ := f3_.symm; clear f1_ f2_ f3_; subst f4_; subst f5_))
   have p120 : 0 ≤ (0 : Int) := (by omega)
   have q120 : 0 < (t117.length : Int) := of_decide_eq_true (by first | (with_reducible assumption) | assumption)
   obtain ⟨ad120, A120_0, c120_0, e120, hx120_0, hl120_0, hi120_0⟩ := at_L12 (Kd.R_reads' HO119.out).2.2 0 p120 q120
   cases e120
   obtain ⟨ce120, hce120, hMe120, hcc120⟩ := Kd.R_get HO119.out [] 0 p120 (by first | exact q120 | exact of_decide_eq_true (by first | (with_reducible assumption) | assumption) | (have e_ := (Kd.R_reads' HO119.out).1; omega))
   obtain ⟨ve120_0, rfl, ge120_0⟩ := hMe120
   have hv120_0 := hcc120 0 _ rfl
   rw [Nat.add_zero, show ((Kd.slice 3 (Kd.int .i64))).sz = 1 from rfl, Nat.mul_one] at hv120_0
   replace hv120_0 := Option.some.inj (hv120_0.symm.trans hx120_0)
   rw [hv120_0] at ge120_0
   have HL120_0 := Az0.mk (show Kd.R (Kd.int .i64) 3 _ _ _ _ (rd_L12 t117 0) from ge120_0)
   clear hv120_0 ge120_0
   clear hcc120 hce120
   have qi120 : (0 < t117.length) = True := eq_true (by omega)
   (try rw [show ((0 : Int)).toNat = 0 from rfl] at hx120_0)
   (try rw [Addr.add_zero'] at hx120_0)
   have HR120_0 := Az0.mk hi120_0
   have HC120_0 := Az0.mk hl120_0
   clear hi120_0 hl120_0
   replace p120 := eq_true p120
   replace q120 := eq_true q120
   refine start_ (n := 7) (S := fun w' => w'.cell? ⟨gb115, 0, none⟩ = some (.slice A0_0 l0_0.length c0_0) ∧ w'.cell? ⟨gb115, 1, none⟩ = some (.slice A0_1 l0_1.length c0_1) ∧ w'.cell? ad120 = some (.slice A120_0 (rd_L12 t117 0).length c120_0)) (ds := []) #[false, false, false, false, false, false, false] (by kernel_rfl) rfl rfl ⟨(bkC BK115.out 0).trans rfl, (bkC BK115.out 1).trans rfl, hx120_0⟩ (fun hHeld => ?_)
   generalize w11.drew = w12 at HO119 BK115 HB HL120_0 HR120_0 hx120_0 hHeld ⊢
   refine pure_ (i := 1) (N := some 16) (v := ?_) (a' := ?_) #[false, true, false, false, false, false, false] rfl rfl (by kernel_rfl) (fun _ _ _ h => h) (Or.inl ⟨by rfl, ?_⟩) ?_ ?_
   rotate_left
   ·intro w'
    go_simp
    with_reducible rfl
   rotate_left
   ·simp only [Act.put, List.setIfInBounds_toArray, List.set_cons_zero, List.set_cons_succ, i64_w, i32_w]
    rfl
   refine pure_ (i := 2) (N := some 17) (v := ?_) (a' := ?_) #[false, true, true, false, false, false, false] rfl rfl (by kernel_rfl) (fun _ _ _ h => h) (Or.inl ⟨by rfl, ?_⟩) ?_ ?_
   rotate_left
   ·intro w'
    go_simp
    with_reducible rfl
   rotate_left
   ·simp only [Act.put, List.setIfInBounds_toArray, List.set_cons_zero, List.set_cons_succ, i64_w, i32_w]
    rfl
   refine take_ (i := 0) (N := some 15) (v := ?_) (a' := ?_) #[true, true, true, false, false, false, false] rfl rfl (by kernel_rfl) (fun _ _ _ h => h) (Or.inl ⟨by rfl, ?_⟩) hHeld ?_ ?_
   rotate_left
   ·rintro w' ⟨s0, s1, s2⟩
    go_simp
    with_reducible rfl
   rotate_left
   ·simp only [Act.put, List.setIfInBounds_toArray, List.set_cons_zero, List.set_cons_succ, i64_w, i32_w]
    rfl
   refine take_ (i := 3) (N := some 18) (v := ?_) (a' := ?_) #[true, true, true, true, false, false, false] rfl rfl (by kernel_rfl) (fun _ _ _ h => h) (Or.inl ⟨by rfl, ?_⟩) hHeld ?_ ?_
   rotate_left
   ·rintro w' ⟨s0, s1, s2⟩
    go_simp
    with_reducible rfl
   rotate_left
   ·simp only [Act.put, List.setIfInBounds_toArray, List.set_cons_zero, List.set_cons_succ, i64_w, i32_w]
    rfl
   refine one_ (i := 4) (N := some 19) #[true, true, true, true, true, false, false] rfl rfl (by kernel_rfl) (by decide) (fun K hK => ?_)
   refine goes_ Try.func65 (by kernel_rfl) rfl #[.agg #[.slice A0_0 l0_0.length c0_0, .slice A0_1 l0_1.length c0_1], .slice A120_0 (rd_L12 t117 0).length c120_0] (by rfl) rfl rfl (by (try simp only [List.map_toArray, List.map_cons, List.map_nil]); first | done | rfl | (simp only [List.length_drop, List.length_take]; rfl)) ?_
   with_reducible refine (trishawref02_total.calls k _ _ l0_0 _ _ l0_1 _ _ (rd_L12 t117 0) t121 _ ?side1 ?side2 ?side3 ?side4 ?side5 ?side6 A6.out).mono ?_
   (case side1 => repeat (first | exact (Kd.C_below HR0_0.out HB.out) | (with_reducible refine Kd.C_alloc ?_ _) | (with_reducible refine Kd.C_drewN ?_ _) | (with_reducible refine Kd.C_drew ?_)))
   (case side2 => exact HC0_0.out)
   (case side3 => repeat (first | exact (Kd.C_below HR0_1.out HB.out) | (with_reducible refine Kd.C_alloc ?_ _) | (with_reducible refine Kd.C_drewN ?_ _) | (with_reducible refine Kd.C_drew ?_)))
   (case side4 => exact HC0_1.out)
   (case side5 => repeat (first | exact (by repeat (first | (with_reducible exact HR120_0.out) | (with_reducible refine Kd.C_alloc ?_ _) | (with_reducible refine Kd.C_drewN ?_ _) | (with_reducible refine Kd.C_drew ?_) | exact HR120_0.out)) | (with_reducible refine Kd.C_alloc ?_ _) | (with_reducible refine Kd.C_drewN ?_ _) | (with_reducible refine Kd.C_drew ?_)))
   (case side6 => exact HC120_0.out)
   rintro e w14 ⟨rfl, hb⟩
   have HS2_ := (hb.cell (World.block_lt_of_cell? _ _ (hHeld.2.2))).trans (hHeld.2.2)
   refine ⟨_, rfl, ?_⟩
   have n0_ := Az0.mk (Kd.R_below (by (with_reducible repeat (first | apply Kd.R_alloc | apply Kd.R_drewN | apply Kd.R_drew)); exact HO119.out) hb)
   have n1_ := Az0.mk (Kd.R_below (by (with_reducible repeat (first | apply Kd.R_alloc | apply Kd.R_drewN | apply Kd.R_drew)); exact HL120_0.out) hb)
   have n2_ := Az0.mk (blk_below (g := gb115) (o := .cells #[.slice A0_0 l0_0.length c0_0, .slice A0_1 l0_1.length c0_1] 41 (0, 0)) (by (with_reducible repeat (first | refine blk_drewN ?_ _ | refine blk_drew ?_ | refine blk_alloc ?_ _)); exact BK115.out) hb)
   have n3_ := Az0.mk (Kd.C_below (by repeat (first | (with_reducible exact HR120_0.out) | (with_reducible refine Kd.C_alloc ?_ _) | (with_reducible refine Kd.C_drewN ?_ _) | (with_reducible refine Kd.C_drew ?_) | exact HR120_0.out)) hb)
   have n4_ := Az0.mk (below_step (by repeat (first | (with_reducible first | exact HB.out | apply baA_ | apply pbN_ | apply bD1_ | refine below_set ?_ GE115.out) | exact HB.out)) hb)
   clear HO119
   clear HL120_0
   clear BK115
   clear HR120_0
   clear HB
   have HO119 := n0_
   have HL120_0 := n1_
   have BK115 := n2_
   have HR120_0 := n3_
   have HB := n4_
   clear n0_ n1_ n2_ n3_ n4_
   (try clear hb)
   (try clear hb2)
   (try clear hk)
   (try clear hi)
   refine hK.out _ _ ⟨(bkC BK115.out 0).trans rfl, (bkC BK115.out 1).trans rfl, HS2_⟩ (fun hHeld => ?_)
   clear hK K
   refine norm_ (a' := ?_) ?_ ?_
   rotate_left
   ·show Act.put _ (some 19) _ = _
    simp only [Act.put, List.setIfInBounds_toArray, List.set_cons_zero, List.set_cons_succ, i64_w, i32_w]
    rfl
   refine pure_ (i := 5) (N := some 6) (v := ?_) (a' := ?_) #[true, true, true, true, true, true, false] rfl rfl (by kernel_rfl) (fun _ _ _ h => h) (Or.inl ⟨by rfl, ?_⟩) ?_ ?_
   rotate_left
   ·intro w'
    go_simp
    with_reducible rfl
   rotate_left
   ·simp only [Act.put, List.setIfInBounds_toArray, List.set_cons_zero, List.set_cons_succ, i64_w, i32_w]
    rfl
   refine pure_ (i := 6) (N := some 7) (v := ?_) (a' := ?_) #[true, true, true, true, true, true, true] rfl rfl (by kernel_rfl) (fun _ _ _ h => h) (Or.inl ⟨by rfl, ?_⟩) ?_ ?_
   rotate_left
   ·intro w'
    go_simp
    with_reducible rfl
   rotate_left
   ·simp only [Act.put, List.setIfInBounds_toArray, List.set_cons_zero, List.set_cons_succ, i64_w, i32_w]
    rfl
   refine done_ (by kernel_rfl) ?_
   try go_wp2
   go_loopg [6, 7, 8] k (fun kq v6 v7 v8 w' => ∃ (x6_1 : Int) (x7_1 : Int) (x8_1 : Int), v6 = .int .i64 x6_1 ∧ v7 = .int .i64 x7_1 ∧ v8 = .int .i64 x8_1 ∧ Az0 (trishawref02_Best.l0 kq t117 x6_1 x7_1 x8_1 l0_0 l0_1 = some (r1, r2, r3)) ∧ Az0 (kq ≤ k) ∧ Az0 (Kd.R (Kd.slice 3 (Kd.int .i64)) 24 w' w.heap.size (fun _ => True) (.slice (some ad120) t117.length co13) t117) ∧ Az0 (w'.heap[gb115]? = some (.cells #[(.slice A0_0 l0_0.length c0_0), (.slice A0_1 l0_1.length c0_1)] 41 (0, 0))) ∧ Az0 (Kd.C (Kd.int .i64) w' A120_0 (rd_L12 t117 0).length (rd_L12 t117 0)) ∧ Az0 (Below w.heap.size w w'))
   case atStart => exact ⟨(0), (t121), (1), (by first | rfl | (simp; done) | (simp [*]; done)), (by first | rfl | (simp; done) | (simp [*]; done)), (by first | rfl | (simp; done) | (simp [*]; done)), H', ⟨Nat.le_refl _⟩, ⟨by (with_reducible repeat (first | apply Kd.R_alloc | apply Kd.R_drewN | apply Kd.R_drew)); exact HO119.out⟩, ⟨by (with_reducible repeat (first | refine blk_drewN ?_ _ | refine blk_drew ?_ | refine blk_alloc ?_ _)); exact BK115.out⟩, ⟨by repeat (first | (with_reducible exact HR120_0.out) | (with_reducible refine Kd.C_alloc ?_ _) | (with_reducible refine Kd.C_drewN ?_ _) | (with_reducible refine Kd.C_drew ?_) | exact HR120_0.out)⟩, ⟨by repeat (first | (with_reducible first | exact HB.out | apply baA_ | apply pbN_ | apply bD1_ | refine below_set ?_ GE115.out) | exact HB.out)⟩⟩
   case round =>
    clear H'
    try clear c1
    try clear p1
    try clear q1
    try clear hx1
    try clear qi1
    try clear c2
    try clear p2
    try clear c3
    try clear c5
    try clear c5b0
    try clear c5b1
    try clear c6
    try clear c12
    try clear p12
    try clear q12
    try clear hx12
    try clear qi12
    try clear hcz10_0
    try clear hcz10_1
    try clear hcz8_0
    try clear hcz8_1
    try clear hfz10_0
    try clear hfz10_1
    try clear hfz8_0
    try clear hfz8_1
    try clear hx120_0
    try clear p120
    try clear q120
    obtain ⟨x6_1, x7_1, x8_1, rfl, rfl, rfl, HA, HK1, HO_5, BK115, HR120_0, HB⟩ := hrel
    cases gk with
    | zero => exact absurd HA.out (by simp [trishawref02_Best.l0])
    | succ k1 =>
     have H := HA.out
     clear HA
     simp only [trishawref02_Best.l0] at H
     by_cases c15 : x8_1 < (t117.length : Int)
     ·rw [if_pos c15] at H
      have c15b0 : decide (x8_1 < (t117.length : Int)) = true := decide_eq_true c15
      clear c15
      by_cases c16 : 0 ≤ x8_1
      ·rw [if_pos c16] at H
       have c16b0 : decide (0 ≤ x8_1) = true := decide_eq_true c16
       clear c16
       replace H := Option.bind_eq_some_iff.mp H
       obtain ⟨t123, A170, H⟩ := H
       replace H : (if t123 < x7_1 then (trishawref02_Best.l0 k1 t117 x8_1 t123 (wrap64 (x8_1 + 1)) l0_0 l0_1) else (trishawref02_Best.l0 k1 t117 x6_1 x7_1 (wrap64 (x8_1 + 1)) l0_0 l0_1)) = some (r1, r2, r3) := H
       have A17 := Az0.mk A170
       clear A170
       by_cases c18 : t123 < x7_1
       ·rw [if_pos c18] at H
        have c18b0 : decide (t123 < x7_1) = true := decide_eq_true c18
        clear c18
        have H' := Az0.mk H
        clear H
        try go_wp2
        have n0_ := Az0.mk (Kd.R_drew HO_5.out)
        have n1_ := Az0.mk (blk_drew BK115.out)
        have n2_ := Az0.mk (Kd.C_drew HR120_0.out)
        have n3_ := Az0.mk (bD1_ HB.out)
        clear HO_5
        clear BK115
        clear HR120_0
        clear HB
        have HO_5 := n0_
        have BK115 := n1_
        have HR120_0 := n2_
        have HB := n3_
        clear n0_ n1_ n2_ n3_
        have p122 : 0 ≤ (x8_1 : Int) := of_decide_eq_true (by first | (with_reducible assumption) | assumption)
        have q122 : x8_1 < (t117.length : Int) := of_decide_eq_true (by first | (with_reducible assumption) | assumption)
        obtain ⟨ad122, A122_0, c122_0, e122, hx122_0, hl122_0, hi122_0⟩ := at_L12 (Kd.R_reads' HO_5.out).2.2 x8_1 p122 q122
        obtain rfl : ad120 = ad122 := (by injection e122)
        obtain ⟨ce122, hce122, hMe122, hcc122⟩ := Kd.R_get HO_5.out [] x8_1 p122 (by first | exact q122 | exact of_decide_eq_true (by first | (with_reducible assumption) | assumption) | (have e_ := (Kd.R_reads' HO_5.out).1; omega))
        obtain ⟨ve122_0, rfl, ge122_0⟩ := hMe122
        have hv122_0 := hcc122 0 _ rfl
        rw [Nat.add_zero, show ((Kd.slice 3 (Kd.int .i64))).sz = 1 from rfl, Nat.mul_one] at hv122_0
        replace hv122_0 := Option.some.inj (hv122_0.symm.trans hx122_0)
        rw [hv122_0] at ge122_0
        have HL122_0 := Az0.mk (show Kd.R (Kd.int .i64) 3 _ _ _ _ (rd_L12 t117 x8_1) from ge122_0)
        clear hv122_0 ge122_0
        clear hcc122 hce122
        have HR122_0 := Az0.mk hi122_0
        have HC122_0 := Az0.mk hl122_0
        clear hi122_0 hl122_0
        replace p122 := eq_true p122
        replace q122 := eq_true q122
        refine start_ (n := 7) (S := fun w' => w'.cell? ⟨gb115, 0, none⟩ = some (.slice A0_0 l0_0.length c0_0) ∧ w'.cell? ⟨gb115, 1, none⟩ = some (.slice A0_1 l0_1.length c0_1) ∧ w'.cell? (ad120.add (x8_1).toNat) = some (.slice A122_0 (rd_L12 t117 x8_1).length c122_0)) (ds := []) #[false, false, false, false, false, false, false] (by kernel_rfl) rfl rfl ⟨(bkC BK115.out 0).trans rfl, (bkC BK115.out 1).trans rfl, hx122_0⟩ (fun hHeld => ?_)
        generalize wr.drew = w19 at HO_5 BK115 HR120_0 HB HL122_0 HR122_0 hx122_0 hHeld ⊢
        refine pure_ (i := 1) (N := some 27) (v := ?_) (a' := ?_) #[false, true, false, false, false, false, false] rfl rfl (by kernel_rfl) (fun _ _ _ h => h) (Or.inl ⟨by rfl, ?_⟩) ?_ ?_
        rotate_left
        ·intro w'
         go_simp
         with_reducible rfl
        rotate_left
        ·simp only [Act.put, List.setIfInBounds_toArray, List.set_cons_zero, List.set_cons_succ, i64_w, i32_w]
         rfl
        refine pure_ (i := 2) (N := some 28) (v := ?_) (a' := ?_) #[false, true, true, false, false, false, false] rfl rfl (by kernel_rfl) (fun _ _ _ h => h) (Or.inl ⟨by rfl, ?_⟩) ?_ ?_
        rotate_left
        ·intro w'
         go_simp
         with_reducible rfl
        rotate_left
        ·simp only [Act.put, List.setIfInBounds_toArray, List.set_cons_zero, List.set_cons_succ, i64_w, i32_w]
         rfl
        refine pure_ (i := 3) (N := some 29) (v := ?_) (a' := ?_) #[false, true, true, true, false, false, false] rfl rfl (by kernel_rfl) (fun _ _ _ h => h) (Or.inl ⟨by rfl, ?_⟩) ?_ ?_
        rotate_left
        ·intro w'
         go_simp
         with_reducible rfl
        rotate_left
        ·simp only [Act.put, List.setIfInBounds_toArray, List.set_cons_zero, List.set_cons_succ, i64_w, i32_w]
         rfl
        refine take_ (i := 0) (N := some 26) (v := ?_) (a' := ?_) #[true, true, true, true, false, false, false] rfl rfl (by kernel_rfl) (fun _ _ _ h => h) (Or.inl ⟨by rfl, ?_⟩) hHeld ?_ ?_
        rotate_left
        ·rintro w' ⟨s0, s1, s2⟩
         go_simp
         with_reducible rfl
        rotate_left
        ·simp only [Act.put, List.setIfInBounds_toArray, List.set_cons_zero, List.set_cons_succ, i64_w, i32_w]
         rfl
        refine take_ (i := 4) (N := some 30) (v := ?_) (a' := ?_) #[true, true, true, true, true, false, false] rfl rfl (by kernel_rfl) (fun _ _ _ h => h) (Or.inl ⟨by rfl, ?_⟩) hHeld ?_ ?_
        rotate_left
        ·rintro w' ⟨s0, s1, s2⟩
         go_simp
         with_reducible rfl
        rotate_left
        ·simp only [Act.put, List.setIfInBounds_toArray, List.set_cons_zero, List.set_cons_succ, i64_w, i32_w]
         rfl
        refine one_ (i := 5) (N := some 31) #[true, true, true, true, true, true, false] rfl rfl (by kernel_rfl) (by decide) (fun K hK => ?_)
        refine goes_ Try.func65 (by kernel_rfl) rfl #[.agg #[.slice A0_0 l0_0.length c0_0, .slice A0_1 l0_1.length c0_1], .slice A122_0 (rd_L12 t117 x8_1).length c122_0] (by rfl) rfl rfl (by (try simp only [List.map_toArray, List.map_cons, List.map_nil]); first | done | rfl | (simp only [List.length_drop, List.length_take]; rfl)) ?_
        with_reducible refine (trishawref02_total.calls k1 _ _ l0_0 _ _ l0_1 _ _ (rd_L12 t117 x8_1) t123 _ ?side1 ?side2 ?side3 ?side4 ?side5 ?side6 A17.out).mono ?_
        (case side1 => repeat (first | exact (Kd.C_below HR0_0.out HB.out) | (with_reducible refine Kd.C_alloc ?_ _) | (with_reducible refine Kd.C_drewN ?_ _) | (with_reducible refine Kd.C_drew ?_)))
        (case side2 => exact HC0_0.out)
        (case side3 => repeat (first | exact (Kd.C_below HR0_1.out HB.out) | (with_reducible refine Kd.C_alloc ?_ _) | (with_reducible refine Kd.C_drewN ?_ _) | (with_reducible refine Kd.C_drew ?_)))
        (case side4 => exact HC0_1.out)
        (case side5 => repeat (first | exact (by repeat (first | (with_reducible exact HR122_0.out) | (with_reducible refine Kd.C_alloc ?_ _) | (with_reducible refine Kd.C_drewN ?_ _) | (with_reducible refine Kd.C_drew ?_) | exact HR122_0.out)) | (with_reducible refine Kd.C_alloc ?_ _) | (with_reducible refine Kd.C_drewN ?_ _) | (with_reducible refine Kd.C_drew ?_)))
        (case side6 => exact HC122_0.out)
        rintro e w20 ⟨rfl, hb⟩
        have HS2_ := (hb.cell (World.block_lt_of_cell? _ _ (hHeld.2.2))).trans (hHeld.2.2)
        refine ⟨_, rfl, ?_⟩
        have n0_ := Az0.mk (Kd.R_below (by (with_reducible repeat (first | apply Kd.R_alloc | apply Kd.R_drewN | apply Kd.R_drew)); exact HO_5.out) hb)
        have n1_ := Az0.mk (Kd.R_below (by (with_reducible repeat (first | apply Kd.R_alloc | apply Kd.R_drewN | apply Kd.R_drew)); exact HL122_0.out) hb)
        have n2_ := Az0.mk (blk_below (g := gb115) (o := .cells #[.slice A0_0 l0_0.length c0_0, .slice A0_1 l0_1.length c0_1] 41 (0, 0)) (by (with_reducible repeat (first | refine blk_drewN ?_ _ | refine blk_drew ?_ | refine blk_alloc ?_ _)); exact BK115.out) hb)
        have n3_ := Az0.mk (Kd.C_below (by repeat (first | (with_reducible exact HR120_0.out) | (with_reducible refine Kd.C_alloc ?_ _) | (with_reducible refine Kd.C_drewN ?_ _) | (with_reducible refine Kd.C_drew ?_) | exact HR120_0.out)) hb)
        have n4_ := Az0.mk (Kd.C_below (by repeat (first | (with_reducible exact HR122_0.out) | (with_reducible refine Kd.C_alloc ?_ _) | (with_reducible refine Kd.C_drewN ?_ _) | (with_reducible refine Kd.C_drew ?_) | exact HR122_0.out)) hb)
        have n5_ := Az0.mk (below_step (by repeat (first | (with_reducible first | exact HB.out | apply baA_ | apply pbN_ | apply bD1_ | refine below_set ?_ GE115.out) | exact HB.out)) hb)
        clear HO_5
        clear HL122_0
        clear BK115
        clear HR120_0
        clear HR122_0
        clear HB
        have HO_5 := n0_
        have HL122_0 := n1_
        have BK115 := n2_
        have HR120_0 := n3_
        have HR122_0 := n4_
        have HB := n5_
        clear n0_ n1_ n2_ n3_ n4_ n5_
        (try clear hb)
        (try clear hb2)
        (try clear hk)
        (try clear hi)
        refine hK.out _ _ ⟨(bkC BK115.out 0).trans rfl, (bkC BK115.out 1).trans rfl, HS2_⟩ (fun hHeld => ?_)
        clear hK K
        refine norm_ (a' := ?_) ?_ ?_
        rotate_left
        ·show Act.put _ (some 31) _ = _
         simp only [Act.put, List.setIfInBounds_toArray, List.set_cons_zero, List.set_cons_succ, i64_w, i32_w]
         rfl
        refine pure_ (i := 6) (N := some 9) (v := ?_) (a' := ?_) #[true, true, true, true, true, true, true] rfl rfl (by kernel_rfl) (fun _ _ _ h => h) (Or.inl ⟨by rfl, ?_⟩) ?_ ?_
        rotate_left
        ·intro w'
         go_simp
         with_reducible rfl
        rotate_left
        ·simp only [Act.put, List.setIfInBounds_toArray, List.set_cons_zero, List.set_cons_succ, i64_w, i32_w]
         rfl
        refine done_ (by kernel_rfl) ?_
        try go_wp2
        go_roundg k1
        case measure => have := HK1.out; omega
        case rel => exact ⟨(x8_1), (t123), (wrap64 (x8_1 + 1)), (by first | rfl | (simp; done) | (simp [*]; done)), (by first | rfl | (simp; done) | (simp [*]; done)), (by first | rfl | (simp; done) | (simp [*]; done)), H', ⟨by have := HK1.out; omega⟩, ⟨by (with_reducible repeat (first | apply Kd.R_alloc | apply Kd.R_drewN | apply Kd.R_drew)); exact HO_5.out⟩, ⟨by (with_reducible repeat (first | refine blk_drewN ?_ _ | refine blk_drew ?_ | refine blk_alloc ?_ _)); exact BK115.out⟩, ⟨by repeat (first | (with_reducible exact HR120_0.out) | (with_reducible refine Kd.C_alloc ?_ _) | (with_reducible refine Kd.C_drewN ?_ _) | (with_reducible refine Kd.C_drew ?_) | exact HR120_0.out)⟩, ⟨by repeat (first | (with_reducible first | exact HB.out | apply baA_ | apply pbN_ | apply bD1_ | refine below_set ?_ GE115.out) | exact HB.out)⟩⟩
       ·rw [if_neg c18] at H
        have c18b0 : decide (t123 < x7_1) = false := decide_eq_false c18
        clear c18
        have H' := Az0.mk H
        clear H
        try go_wp2
        have n0_ := Az0.mk (Kd.R_drew HO_5.out)
        have n1_ := Az0.mk (blk_drew BK115.out)
        have n2_ := Az0.mk (Kd.C_drew HR120_0.out)
        have n3_ := Az0.mk (bD1_ HB.out)
        clear HO_5
        clear BK115
        clear HR120_0
        clear HB
        have HO_5 := n0_
        have BK115 := n1_
        have HR120_0 := n2_
        have HB := n3_
        clear n0_ n1_ n2_ n3_
        have p122 : 0 ≤ (x8_1 : Int) := of_decide_eq_true (by first | (with_reducible assumption) | assumption)
        have q122 : x8_1 < (t117.length : Int) := of_decide_eq_true (by first | (with_reducible assumption) | assumption)
        obtain ⟨ad122, A122_0, c122_0, e122, hx122_0, hl122_0, hi122_0⟩ := at_L12 (Kd.R_reads' HO_5.out).2.2 x8_1 p122 q122
        obtain rfl : ad120 = ad122 := (by injection e122)
        obtain ⟨ce122, hce122, hMe122, hcc122⟩ := Kd.R_get HO_5.out [] x8_1 p122 (by first | exact q122 | exact of_decide_eq_true (by first | (with_reducible assumption) | assumption) | (have e_ := (Kd.R_reads' HO_5.out).1; omega))
        obtain ⟨ve122_0, rfl, ge122_0⟩ := hMe122
        have hv122_0 := hcc122 0 _ rfl
        rw [Nat.add_zero, show ((Kd.slice 3 (Kd.int .i64))).sz = 1 from rfl, Nat.mul_one] at hv122_0
        replace hv122_0 := Option.some.inj (hv122_0.symm.trans hx122_0)
        rw [hv122_0] at ge122_0
        have HL122_0 := Az0.mk (show Kd.R (Kd.int .i64) 3 _ _ _ _ (rd_L12 t117 x8_1) from ge122_0)
        clear hv122_0 ge122_0
        clear hcc122 hce122
        have HR122_0 := Az0.mk hi122_0
        have HC122_0 := Az0.mk hl122_0
        clear hi122_0 hl122_0
        replace p122 := eq_true p122
        replace q122 := eq_true q122
        refine start_ (n := 7) (S := fun w' => w'.cell? ⟨gb115, 0, none⟩ = some (.slice A0_0 l0_0.length c0_0) ∧ w'.cell? ⟨gb115, 1, none⟩ = some (.slice A0_1 l0_1.length c0_1) ∧ w'.cell? (ad120.add (x8_1).toNat) = some (.slice A122_0 (rd_L12 t117 x8_1).length c122_0)) (ds := []) #[false, false, false, false, false, false, false] (by kernel_rfl) rfl rfl ⟨(bkC BK115.out 0).trans rfl, (bkC BK115.out 1).trans rfl, hx122_0⟩ (fun hHeld => ?_)
        generalize wr.drew = w21 at HO_5 BK115 HR120_0 HB HL122_0 HR122_0 hx122_0 hHeld ⊢
        refine pure_ (i := 1) (N := some 27) (v := ?_) (a' := ?_) #[false, true, false, false, false, false, false] rfl rfl (by kernel_rfl) (fun _ _ _ h => h) (Or.inl ⟨by rfl, ?_⟩) ?_ ?_
        rotate_left
        ·intro w'
         go_simp
         with_reducible rfl
        rotate_left
        ·simp only [Act.put, List.setIfInBounds_toArray, List.set_cons_zero, List.set_cons_succ, i64_w, i32_w]
         rfl
        refine pure_ (i := 2) (N := some 28) (v := ?_) (a' := ?_) #[false, true, true, false, false, false, false] rfl rfl (by kernel_rfl) (fun _ _ _ h => h) (Or.inl ⟨by rfl, ?_⟩) ?_ ?_
        rotate_left
        ·intro w'
         go_simp
         with_reducible rfl
        rotate_left
        ·simp only [Act.put, List.setIfInBounds_toArray, List.set_cons_zero, List.set_cons_succ, i64_w, i32_w]
         rfl
        refine pure_ (i := 3) (N := some 29) (v := ?_) (a' := ?_) #[false, true, true, true, false, false, false] rfl rfl (by kernel_rfl) (fun _ _ _ h => h) (Or.inl ⟨by rfl, ?_⟩) ?_ ?_
        rotate_left
        ·intro w'
         go_simp
         with_reducible rfl
        rotate_left
        ·simp only [Act.put, List.setIfInBounds_toArray, List.set_cons_zero, List.set_cons_succ, i64_w, i32_w]
         rfl
        refine take_ (i := 0) (N := some 26) (v := ?_) (a' := ?_) #[true, true, true, true, false, false, false] rfl rfl (by kernel_rfl) (fun _ _ _ h => h) (Or.inl ⟨by rfl, ?_⟩) hHeld ?_ ?_
        rotate_left
        ·rintro w' ⟨s0, s1, s2⟩
         go_simp
         with_reducible rfl
        rotate_left
        ·simp only [Act.put, List.setIfInBounds_toArray, List.set_cons_zero, List.set_cons_succ, i64_w, i32_w]
         rfl
        refine take_ (i := 4) (N := some 30) (v := ?_) (a' := ?_) #[true, true, true, true, true, false, false] rfl rfl (by kernel_rfl) (fun _ _ _ h => h) (Or.inl ⟨by rfl, ?_⟩) hHeld ?_ ?_
        rotate_left
        ·rintro w' ⟨s0, s1, s2⟩
         go_simp
         with_reducible rfl
        rotate_left
        ·simp only [Act.put, List.setIfInBounds_toArray, List.set_cons_zero, List.set_cons_succ, i64_w, i32_w]
         rfl
        refine one_ (i := 5) (N := some 31) #[true, true, true, true, true, true, false] rfl rfl (by kernel_rfl) (by decide) (fun K hK => ?_)
        refine goes_ Try.func65 (by kernel_rfl) rfl #[.agg #[.slice A0_0 l0_0.length c0_0, .slice A0_1 l0_1.length c0_1], .slice A122_0 (rd_L12 t117 x8_1).length c122_0] (by rfl) rfl rfl (by (try simp only [List.map_toArray, List.map_cons, List.map_nil]); first | done | rfl | (simp only [List.length_drop, List.length_take]; rfl)) ?_
        with_reducible refine (trishawref02_total.calls k1 _ _ l0_0 _ _ l0_1 _ _ (rd_L12 t117 x8_1) t123 _ ?side1 ?side2 ?side3 ?side4 ?side5 ?side6 A17.out).mono ?_
        (case side1 => repeat (first | exact (Kd.C_below HR0_0.out HB.out) | (with_reducible refine Kd.C_alloc ?_ _) | (with_reducible refine Kd.C_drewN ?_ _) | (with_reducible refine Kd.C_drew ?_)))
        (case side2 => exact HC0_0.out)
        (case side3 => repeat (first | exact (Kd.C_below HR0_1.out HB.out) | (with_reducible refine Kd.C_alloc ?_ _) | (with_reducible refine Kd.C_drewN ?_ _) | (with_reducible refine Kd.C_drew ?_)))
        (case side4 => exact HC0_1.out)
        (case side5 => repeat (first | exact (by repeat (first | (with_reducible exact HR122_0.out) | (with_reducible refine Kd.C_alloc ?_ _) | (with_reducible refine Kd.C_drewN ?_ _) | (with_reducible refine Kd.C_drew ?_) | exact HR122_0.out)) | (with_reducible refine Kd.C_alloc ?_ _) | (with_reducible refine Kd.C_drewN ?_ _) | (with_reducible refine Kd.C_drew ?_)))
        (case side6 => exact HC122_0.out)
        rintro e w22 ⟨rfl, hb⟩
        have HS2_ := (hb.cell (World.block_lt_of_cell? _ _ (hHeld.2.2))).trans (hHeld.2.2)
        refine ⟨_, rfl, ?_⟩
        have n0_ := Az0.mk (Kd.R_below (by (with_reducible repeat (first | apply Kd.R_alloc | apply Kd.R_drewN | apply Kd.R_drew)); exact HO_5.out) hb)
        have n1_ := Az0.mk (Kd.R_below (by (with_reducible repeat (first | apply Kd.R_alloc | apply Kd.R_drewN | apply Kd.R_drew)); exact HL122_0.out) hb)
        have n2_ := Az0.mk (blk_below (g := gb115) (o := .cells #[.slice A0_0 l0_0.length c0_0, .slice A0_1 l0_1.length c0_1] 41 (0, 0)) (by (with_reducible repeat (first | refine blk_drewN ?_ _ | refine blk_drew ?_ | refine blk_alloc ?_ _)); exact BK115.out) hb)
        have n3_ := Az0.mk (Kd.C_below (by repeat (first | (with_reducible exact HR120_0.out) | (with_reducible refine Kd.C_alloc ?_ _) | (with_reducible refine Kd.C_drewN ?_ _) | (with_reducible refine Kd.C_drew ?_) | exact HR120_0.out)) hb)
        have n4_ := Az0.mk (Kd.C_below (by repeat (first | (with_reducible exact HR122_0.out) | (with_reducible refine Kd.C_alloc ?_ _) | (with_reducible refine Kd.C_drewN ?_ _) | (with_reducible refine Kd.C_drew ?_) | exact HR122_0.out)) hb)
        have n5_ := Az0.mk (below_step (by repeat (first | (with_reducible first | exact HB.out | apply baA_ | apply pbN_ | apply bD1_ | refine below_set ?_ GE115.out) | exact HB.out)) hb)
        clear HO_5
        clear HL122_0
        clear BK115
        clear HR120_0
        clear HR122_0
        clear HB
        have HO_5 := n0_
        have HL122_0 := n1_
        have BK115 := n2_
        have HR120_0 := n3_
        have HR122_0 := n4_
        have HB := n5_
        clear n0_ n1_ n2_ n3_ n4_ n5_
        (try clear hb)
        (try clear hb2)
        (try clear hk)
        (try clear hi)
        refine hK.out _ _ ⟨(bkC BK115.out 0).trans rfl, (bkC BK115.out 1).trans rfl, HS2_⟩ (fun hHeld => ?_)
        clear hK K
        refine norm_ (a' := ?_) ?_ ?_
        rotate_left
        ·show Act.put _ (some 31) _ = _
         simp only [Act.put, List.setIfInBounds_toArray, List.set_cons_zero, List.set_cons_succ, i64_w, i32_w]
         rfl
        refine pure_ (i := 6) (N := some 9) (v := ?_) (a' := ?_) #[true, true, true, true, true, true, true] rfl rfl (by kernel_rfl) (fun _ _ _ h => h) (Or.inl ⟨by rfl, ?_⟩) ?_ ?_
        rotate_left
        ·intro w'
         go_simp
         with_reducible rfl
        rotate_left
        ·simp only [Act.put, List.setIfInBounds_toArray, List.set_cons_zero, List.set_cons_succ, i64_w, i32_w]
         rfl
        refine done_ (by kernel_rfl) ?_
        try go_wp2
        go_roundg k1
        case measure => have := HK1.out; omega
        case rel => exact ⟨(x6_1), (x7_1), (wrap64 (x8_1 + 1)), (by first | rfl | (simp; done) | (simp [*]; done)), (by first | rfl | (simp; done) | (simp [*]; done)), (by first | rfl | (simp; done) | (simp [*]; done)), H', ⟨by have := HK1.out; omega⟩, ⟨by (with_reducible repeat (first | apply Kd.R_alloc | apply Kd.R_drewN | apply Kd.R_drew)); exact HO_5.out⟩, ⟨by (with_reducible repeat (first | refine blk_drewN ?_ _ | refine blk_drew ?_ | refine blk_alloc ?_ _)); exact BK115.out⟩, ⟨by repeat (first | (with_reducible exact HR120_0.out) | (with_reducible refine Kd.C_alloc ?_ _) | (with_reducible refine Kd.C_drewN ?_ _) | (with_reducible refine Kd.C_drew ?_) | exact HR120_0.out)⟩, ⟨by repeat (first | (with_reducible first | exact HB.out | apply baA_ | apply pbN_ | apply bD1_ | refine below_set ?_ GE115.out) | exact HB.out)⟩⟩
      ·rw [if_neg c16] at H
       exact absurd H (by simp)
     ·rw [if_neg c15] at H
      have c15b0 : decide (x8_1 < (t117.length : Int)) = false := decide_eq_false c15
      clear c15
      by_cases c23 : 0 ≤ x6_1
      ·rw [if_pos c23] at H
       have c23b0 : decide (0 ≤ x6_1) = true := decide_eq_true c23
       clear c23
       by_cases c24 : x6_1 < (t117.length : Int)
       ·rw [if_pos c24] at H
        have c24b0 : decide (x6_1 < (t117.length : Int)) = true := decide_eq_true c24
        clear c24
        simp only [Option.some.injEq, Prod.mk.injEq] at H
        obtain ⟨rfl, rfl, rfl⟩ := H
        have p124 : 0 ≤ (x6_1 : Int) := of_decide_eq_true (by first | (with_reducible assumption) | assumption)
        have q124 : x6_1 < (t117.length : Int) := of_decide_eq_true (by first | (with_reducible assumption) | assumption)
        obtain ⟨ad124, A124_0, c124_0, e124, hx124_0, hl124_0, hi124_0⟩ := at_L12 (Kd.R_reads' HO_5.out).2.2 x6_1 p124 q124
        obtain rfl : ad120 = ad124 := (by injection e124)
        obtain ⟨ce124, hce124, hMe124, hcc124⟩ := Kd.R_get HO_5.out [] x6_1 p124 (by first | exact q124 | exact of_decide_eq_true (by first | (with_reducible assumption) | assumption) | (have e_ := (Kd.R_reads' HO_5.out).1; omega))
        obtain ⟨ve124_0, rfl, ge124_0⟩ := hMe124
        have hv124_0 := hcc124 0 _ rfl
        rw [Nat.add_zero, show ((Kd.slice 3 (Kd.int .i64))).sz = 1 from rfl, Nat.mul_one] at hv124_0
        replace hv124_0 := Option.some.inj (hv124_0.symm.trans hx124_0)
        rw [hv124_0] at ge124_0
        have HL124_0 := Az0.mk (show Kd.R (Kd.int .i64) 3 _ _ _ _ (rd_L12 t117 x6_1) from ge124_0)
        clear hv124_0 ge124_0
        clear hcc124 hce124
        have HR124_0 := Az0.mk hi124_0
        have HC124_0 := Az0.mk hl124_0
        clear hi124_0 hl124_0
        replace p124 := eq_true p124
        replace q124 := eq_true q124
        go_wp2
        go_ret3
        exact ⟨_, by first | rfl | (simp [errW_none, errW_some] <;> rfl) | (simp [*, errW_none, errW_some] <;> rfl), by (with_reducible repeat (first | apply Kd.R_alloc | apply Kd.R_drewN | apply Kd.R_drew)); exact Kd.R_mono HL124_0.out (fun _ hk => trivial), by repeat (first | (with_reducible first | exact HB.out | apply baA_ | apply pbN_ | apply bD1_ | refine below_set ?_ GE115.out) | exact HB.out)⟩
       ·rw [if_neg c24] at H
        exact absurd H (by simp)
      ·rw [if_neg c23] at H
       exact absurd H (by simp)
  ·rw [if_neg c5] at H
   exact absurd H (by simp)
 ·replace c3 := Bool.eq_false_iff.mpr c3
  subst c3
  have H1 : (some (([] : List Int), 0, 2)) = some (r1, r2, r3) := by rw [if_neg (show ¬ (false = true) by decide)] at H; exact H
  clear H
  have H := H1
  clear H1
  simp only [Option.some.injEq, Prod.mk.injEq] at H
  obtain ⟨rfl, rfl, rfl⟩ := H
  go_enter Try.func38, Try.ntmps38
  go_wp2_with (first | ((with_reducible refine gate_dst (N := 1) rfl ?_); refine box_event ?hg (N := 1) ?hd (cs := #[.slice A0_0 l0_0.length c0_0, .slice A0_1 l0_1.length c0_1]) (t := 41) ?hr ?_; (case hd => rfl); (case hg => rfl); (case hr => first | (go_simp; done) | (go_simp; rfl)); intro gb115 hg w25 hbox hb; have n0_ := Az0.mk (below_step (by repeat (first | (with_reducible first | exact HB.out | apply baA_ | apply pbN_ | apply bD1_) | exact HB.out)) hb); have n1_ := Az0.mk (hbox); have n2_ := Az0.mk ((by rw [hg]; exact (below_size (by repeat (first | (with_reducible first | exact HB.out | apply baA_ | apply pbN_ | apply bD1_) | exact HB.out))) : w.heap.size ≤ gb115)); have n3_ := Az0.mk ((by rw [hg]; exact (below_size (by repeat (first | (with_reducible first | exact HB.out | apply baA_ | apply pbN_ | apply bD1_) | exact HB.out))) : w.heap.size ≤ gb115)); clear HB; have HB := n0_; have BK115 := n1_; have GW115 := n2_; have GE115 := n3_; clear n0_ n1_ n2_ n3_; clear hb hbox hg; have hcz26_0 : w25.cell? ⟨gb115, 0, none⟩ = some (.slice A0_0 l0_0.length c0_0) := (bkC BK115.out 0).trans rfl; have hcz26_1 : w25.cell? ⟨gb115, 1, none⟩ = some (.slice A0_1 l0_1.length c0_1) := (bkC BK115.out 1).trans rfl; have hfz26_0 := blk_frozen BK115.out 0; have hfz26_1 := blk_frozen BK115.out 1) | ((with_reducible refine gate_callee (f := 25) rfl ?_); refine goesL_ (some 11) rfl rfl Try.func25 (by kernel_rfl) rfl #[.agg #[.slice A0_0 l0_0.length c0_0, .slice A0_1 l0_1.length c0_1]] rfl (by (try simp only [List.map_toArray, List.map_cons, List.map_nil]); first | done | rfl | (simp only [List.length_drop, List.length_take]; rfl)) ?_; (with_reducible refine (trishawref02_IsGame.calls k _ _ l0_0 _ _ l0_1 false _ ?side1 ?side2 ?side3 ?side4 A2.out).mono ?_); (case side1 => repeat (first | exact (Kd.C_below HR0_0.out HB.out) | (with_reducible refine Kd.C_alloc ?_ _) | (with_reducible refine Kd.C_drewN ?_ _) | (with_reducible refine Kd.C_drew ?_))); (case side2 => exact HC0_0.out); (case side3 => repeat (first | exact (Kd.C_below HR0_1.out HB.out) | (with_reducible refine Kd.C_alloc ?_ _) | (with_reducible refine Kd.C_drewN ?_ _) | (with_reducible refine Kd.C_drew ?_))); (case side4 => exact HC0_1.out); rintro e w27 ⟨rfl, hb⟩; refine ⟨_, rfl, ?_⟩; have n0_ := Az0.mk (blk_below (g := gb115) (o := .cells #[.slice A0_0 l0_0.length c0_0, .slice A0_1 l0_1.length c0_1] 41 (0, 0)) (by (with_reducible repeat (first | refine blk_drewN ?_ _ | refine blk_drew ?_ | refine blk_alloc ?_ _)); exact BK115.out) hb); have n1_ := Az0.mk (below_step (by repeat (first | (with_reducible first | exact HB.out | apply baA_ | apply pbN_ | apply bD1_ | refine below_set ?_ GE115.out) | exact HB.out)) hb); clear BK115; clear HB; have BK115 := n0_; have HB := n1_; clear n0_ n1_; (try clear hb); (try clear hb2); (try clear hk); (try clear hi)))
  go_ret3
  exact ⟨_, by first | rfl | (simp [errW_none, errW_some] <;> rfl) | (simp [*, errW_none, errW_some] <;> rfl), by first | exact Kd.R_nil _ _ _ _ _ | exact Kd.N_nil _ _ _ _ _ | exact Kd.V_nil _ _ _ _ _ | exact Kd.Q_nil _ _ _ _ _ | exact Kd.R_nil _ _ _ _ _, by repeat (first | (with_reducible first | exact HB.out | apply baA_ | apply pbN_ | apply bD1_ | refine below_set ?_ GE115.out) | exact HB.out)⟩
end Go.Proofs.Ytjgbdicbdlollaa.B
namespace Go.Proofs.Ytjgbdicbdlollaa.B
open Go.RowKit Go.Proofs.YtjgbdicbdlollaaW.PrintWords Go.Proofs.YtjgbdicbdlollaaW.PrintLast Go.Proofs.YtjgbdicbdlollaaW.PrintMore
attribute [local go_sem] max2_int min2_int max_two min_two max_three min_three max_four min_four   -- for this text's walks alone
set_option linter.unusedVariables false
set_option linter.unusedSimpArgs false
def trishawref02_With.f (l0 : List Int) (a1 : Int) (a2 : Int) : Option (List Int) := if ([] : List Int).length + l0.length < 17592186044416 then ((some (([] : List Int) ++ l0 : List Int)).bind fun y208 => (if 0 ≤ a1 then (if a1 < (y208.length : Int) then (some (y208.set (a1 : Int).toNat a2)) else (none)) else (none))) else (none)
set_option maxHeartbeats 8000000 in
set_option maxRecDepth 100000 in
theorem trishawref02_With.calls (A0 : Option Addr) (c0 : Nat) (l0 : List Int) (a1 : Int) (a2 : Int) (r : List Int) (w : World) (hr0 : Kd.C (Kd.int .i64) w A0 l0.length l0) (hc0 : l0.length ≤ c0) (h : trishawref02_With.f l0 a1 a2 = some r) :
  Calls Try.prog 35 #[.slice A0 l0.length c0, .int .i64 a1, .int .i64 a2] w fun e w' => ∃ v0_ : Value, e = .returned (v0_) ∧ Kd.R (Kd.int .i64) 3 w' w.heap.size (fun _ => True) v0_ r ∧ Below w.heap.size w w' := by
 have HR0 := Az0.mk hr0
 have HC0 := Az0.mk hc0
 clear hr0 hc0
 have HB := Az0.mk (Below.refl w.heap.size w)
 have H : (if ([] : List Int).length + l0.length < 17592186044416 then ((some (([] : List Int) ++ l0 : List Int)).bind fun y208 => (if 0 ≤ a1 then (if a1 < (y208.length : Int) then (some (y208.set (a1 : Int).toNat a2)) else (none)) else (none))) else (none)) = some r := h
 clear h
 by_cases c4 : ([] : List Int).length + l0.length < 17592186044416
 ·rw [if_pos c4] at H
  have LMc4 := Az0.mk c4
  clear c4
  obtain ⟨y208, hy208⟩ : ∃ y_ : List Int, y_ = (([] : List Int) ++ l0) := ⟨_, rfl⟩
  replace H : (if 0 ≤ a1 then (if a1 < (y208.length : Int) then (some (y208.set (a1 : Int).toNat a2)) else (none)) else (none)) = some r := by first | (rw [hy208]; with_reducible exact H) | (have H2_ := (Option.bind_some _ _).symm.trans H; rw [hy208]; with_reducible exact H2_) | (have H2_ := (Option.bind_some _ _).symm.trans H; with_reducible exact H2_) | with_reducible exact H | (rw [hy208]; exact H) | exact H
  have Ny208 := Az0.mk hy208
  clear hy208
  by_cases c5 : 0 ≤ a1
  ·rw [if_pos c5] at H
   have c5b0 : decide (0 ≤ a1) = true := decide_eq_true c5
   clear c5
   by_cases c6 : a1 < (y208.length : Int)
   ·rw [if_pos c6] at H
    have c6b0 : decide (a1 < (y208.length : Int)) = true := decide_eq_true c6
    clear c6
    obtain ⟨y211, hy211⟩ : ∃ y_ : List Int, y_ = (y208.set (a1 : Int).toNat a2) := ⟨_, rfl⟩
    replace H : (some y211) = some r := by first | (rw [hy211]; with_reducible exact H) | (have H2_ := (Option.bind_some _ _).symm.trans H; rw [hy211]; with_reducible exact H2_) | (have H2_ := (Option.bind_some _ _).symm.trans H; with_reducible exact H2_) | with_reducible exact H | (rw [hy211]; exact H) | exact H
    have Ny211 := Az0.mk hy211
    clear hy211
    obtain rfl := Option.some.inj H
    go_enter Try.func35, Try.ntmps35
    go_wp2_with (first | ((with_reducible refine gate_builtin (b := .append) (xs := #[.tmp 8, .tmp 9]) rfl ?_); at_builtin; refine Kd.R_append_rows (Kd.int .i64) (w0 := w) w.heap.size rfl (.tmp 8) (.tmp 9) 24 3 (.int .i64 0) 8 rfl Try.underlying24 info3 rfl (by decide) (by omega) (.slice none 0 0) ([] : List Int) l0 _ _ _ (fun _ => True) (fun _ => False) rfl rfl ?aO ?aR (fun _ _ h => h) (fun _ h => h.elim) ?aF ?aB ?aS ?aL ?_; (case aR => repeat (first | exact HR0.out | (with_reducible refine Kd.C_alloc ?_ _) | (with_reducible refine Kd.C_drewN ?_ _) | (with_reducible refine Kd.C_drew ?_))); (case aB => exact (by repeat (first | (with_reducible first | exact HB.out | apply baA_ | apply pbN_ | apply bD1_) | exact HB.out))); (case aF => exact (fun _ _ => trivial)); (case aO => exact ((Kd.R_nil _ _ _ _ (fun _ => True)))); (case aS => exact (below_size (by repeat (first | (with_reducible first | exact HB.out | apply baA_ | apply pbN_ | apply bD1_) | exact HB.out)))); (case aL => have := LMc4.out; omega); intro v209 w8 ho hb hg hat; rw [← Ny208.out] at ho; have n0_ := Az0.mk (hb); have n1_ := Az0.mk (ho); clear HB; have HB := n0_; have HO210 := n1_; clear n0_ n1_; clear ho hb hg hat; have p7 : 0 ≤ (a1 : Int) := of_decide_eq_true (by first | (with_reducible assumption) | assumption); have q7 : (a1 : Int) < ((y208.length : Int) : Int) := of_decide_eq_true (by first | (with_reducible assumption) | assumption); obtain ⟨go7, co7, eo7, gb7, gl7, cl7, HG7⟩ := Kd.R_form HO210.out (by omega); (first | cases eo7 | (injection eo7 with ea_ en_ ec_; (first | subst ea_ | (injection ea_ with ea_; subst ea_)); subst ec_; clear en_)); have GB7 := Az0.mk gb7; have GG7 := Az0.mk HG7; clear gb7 gl7 HG7; obtain ⟨hx7_0, hf7_0⟩ := Kd.R_celln 0 HO210.out (a1 : Int) p7 q7; replace p7 := eq_true p7; replace q7 := eq_true q7; obtain ⟨hy9_, hz9_⟩ := Kd.R_celln 0 HO210.out (a1 : Int) (of_decide_eq_true (by first | (with_reducible assumption) | assumption)) (of_decide_eq_true (by first | (with_reducible assumption) | assumption)); have HP9 := Kd.R_putg HO210.out (a1 : Int) a2) | ((with_reducible refine gate_store (t := 3) (p := 14) rfl ?_); refine store_event (t := 3) (p := 14) (v := ?vo_w10) (w1 := (w8.setCell ⟨go7, (a1 : Int).toNat, none⟩ (.int .i64 a2))) ?hg ?ho ?hn ?hr ?_; (case ho => rfl); (case hg => rfl); (case hn => rfl); (case hr => first | (go_simp; done) | (go_simp; rfl)); intro w10 hw; have hg : w8.grownBy w10 (some go7) := (by rw [hw]; exact HP9.2); have hp_ : Kd.R (Kd.int .i64) 3 w10 w.heap.size (fun _ => True) (.slice (some ⟨go7, 0, none⟩) y208.length co7) y211 := (by rw [hw, Ny211.out]; exact HP9.1); clear HP9; have n0_ := Az0.mk (hp_); have n1_ := Az0.mk ((by rw [hw]; exact below_set (HB.out) GB7.out : Below w.heap.size w w10)); clear HO210; clear HB; have HO210 := n0_; have HB := n1_; clear n0_ n1_; clear hg hw hp_))
    go_ret
    exact ⟨_, by first | rfl | (simp [errW_none, errW_some] <;> rfl) | (simp [*, errW_none, errW_some] <;> rfl), by (with_reducible repeat (first | apply Kd.R_alloc | apply Kd.R_drewN | apply Kd.R_drew)); exact HO210.out, by repeat (first | (with_reducible first | exact HB.out | apply baA_ | apply pbN_ | apply bD1_) | exact HB.out)⟩
   ·rw [if_neg c6] at H
    exact absurd H (by simp)
  ·rw [if_neg c5] at H
   exact absurd H (by simp)
 ·rw [if_neg c4] at H
  exact absurd H (by simp)
def trishawref02_better.l0 : Nat → List Int → Int → Int → Int → Int → List (List Int) → List (List Int) → Option (Int)
  | 0, _, _, _, _, _, _, _ => none
  | k + 1, x1, x2, x7, x8, x9, x213000, x213001 => if 0 ≤ x2 then (if x2 < (x213000.length : Int) then (if x9 < ((rd_L12 x213000 x2).length : Int) then ((trishawref02_With.f x1 x2 x9).bind fun t216 => ((trishawref02_cost.f k x213000 x213001 t216 x2).bind fun t219 => (if t219 < x8 then (trishawref02_better.l0 k x1 x2 x9 t219 (wrap64 (x9 + 1)) x213000 x213001) else (trishawref02_better.l0 k x1 x2 x7 x8 (wrap64 (x9 + 1)) x213000 x213001)))) else (some x7)) else (none)) else (none)
def trishawref02_better.f (k : Nat) (l0_0 : List (List Int)) (l0_1 : List (List Int)) (l1 : List Int) (a2 : Int) : Option (Int) := if 0 ≤ a2 then (if a2 < (l1.length : Int) then ((trishawref02_cost.f k l0_0 l0_1 l1 a2).bind fun t214 => (trishawref02_better.l0 k l1 a2 (rd l1 a2) t214 0 l0_0 l0_1)) else (none)) else (none)
def trishawref02_better.T6 : Bool × List (List Nat × List Nat) := (true, [([], []), ([], []), ([], []), ([], []), ([1, 2, 3], [1, 2, 3]), ([], []), ([0, 4, 5, 4], [0, 4, 5]), ([6, 6, 0, 1, 2, 3, 4, 5, 6], [6])])
def trishawref02_better.B6 : List Nat := [0, 0, 0, 0, 14, 0, 63, 127]
theorem trishawref02_better.tab6 : rtab .any (opsOf Try.f92 6) = trishawref02_better.T6 := by kernel_rfl
theorem trishawref02_better.bits6 : waitsOk trishawref02_better.T6.2 trishawref02_better.B6 = true := by kernel_rfl
set_option maxHeartbeats 8000000 in
set_option maxRecDepth 100000 in
theorem trishawref02_better.calls (k : Nat) (A0_0 : Option Addr) (c0_0 : Nat) (l0_0 : List (List Int)) (A0_1 : Option Addr) (c0_1 : Nat) (l0_1 : List (List Int)) (A1 : Option Addr) (c1 : Nat) (l1 : List Int) (a2 : Int) (r : Int) (w : World) (hr0_0 : Kd.C (Kd.slice 3 (Kd.int .i64)) w A0_0 l0_0.length l0_0) (hc0_0 : l0_0.length ≤ c0_0) (hr0_1 : Kd.C (Kd.slice 3 (Kd.int .i64)) w A0_1 l0_1.length l0_1) (hc0_1 : l0_1.length ≤ c0_1) (hr1 : Kd.C (Kd.int .i64) w A1 l1.length l1) (hc1 : l1.length ≤ c1) (h : trishawref02_better.f k l0_0 l0_1 l1 a2 = some r) :
  Calls Try.prog 92 #[.agg #[.slice A0_0 l0_0.length c0_0, .slice A0_1 l0_1.length c0_1], .slice A1 l1.length c1, .int .i64 a2] w fun e w' => e = .returned (.int .i64 r) ∧ Below w.heap.size w w' := by
 have hu41 := Try.underlying41
 have HR0_0 := Az0.mk hr0_0
 have HC0_0 := Az0.mk hc0_0
 clear hr0_0 hc0_0
 have HR0_1 := Az0.mk hr0_1
 have HC0_1 := Az0.mk hc0_1
 clear hr0_1 hc0_1
 have HR1 := Az0.mk hr1
 have HC1 := Az0.mk hc1
 clear hr1 hc1
 have HB := Az0.mk (Below.refl w.heap.size w)
 have H : (if 0 ≤ a2 then (if a2 < (l1.length : Int) then ((trishawref02_cost.f k l0_0 l0_1 l1 a2).bind fun t214 => (trishawref02_better.l0 k l1 a2 (rd l1 a2) t214 0 l0_0 l0_1)) else (none)) else (none)) = some r := h
 clear h
 by_cases c4 : 0 ≤ a2
 ·rw [if_pos c4] at H
  have c4b0 : decide (0 ≤ a2) = true := decide_eq_true c4
  clear c4
  by_cases c5 : a2 < (l1.length : Int)
  ·rw [if_pos c5] at H
   have c5b0 : decide (a2 < (l1.length : Int)) = true := decide_eq_true c5
   clear c5
   replace H := Option.bind_eq_some_iff.mp H
   obtain ⟨t214, A60, H⟩ := H
   replace H : (trishawref02_better.l0 k l1 a2 (rd l1 a2) t214 0 l0_0 l0_1) = some r := H
   have A6 := Az0.mk A60
   clear A60
   have H' := Az0.mk H
   clear H
   go_enter Try.func92, Try.ntmps92
   go_wp2_with (first | ((with_reducible refine gate_dst (N := 3) rfl ?_); refine box_event ?hg (N := 3) ?hd (cs := #[.slice A0_0 l0_0.length c0_0, .slice A0_1 l0_1.length c0_1]) (t := 41) ?hr ?_; (case hd => rfl); (case hg => rfl); (case hr => first | (go_simp; done) | (go_simp; rfl)); intro gb212 hg w7 hbox hb; have n0_ := Az0.mk (below_step (by repeat (first | (with_reducible first | exact HB.out | apply baA_ | apply pbN_ | apply bD1_) | exact HB.out)) hb); have n1_ := Az0.mk (hbox); have n2_ := Az0.mk ((by rw [hg]; exact (below_size (by repeat (first | (with_reducible first | exact HB.out | apply baA_ | apply pbN_ | apply bD1_) | exact HB.out))) : w.heap.size ≤ gb212)); have n3_ := Az0.mk ((by rw [hg]; exact (below_size (by repeat (first | (with_reducible first | exact HB.out | apply baA_ | apply pbN_ | apply bD1_) | exact HB.out))) : w.heap.size ≤ gb212)); clear HB; have HB := n0_; have BK212 := n1_; have GW212 := n2_; have GE212 := n3_; clear n0_ n1_ n2_ n3_; clear hb hbox hg; have p213 : 0 ≤ (a2 : Int) := of_decide_eq_true (by first | (with_reducible assumption) | assumption); have q213 : a2 < (l1.length : Int) := of_decide_eq_true (by first | (with_reducible assumption) | assumption); obtain ⟨ad213, e213, hx213_0⟩ := Kd.at_int HR1.out a2 p213 q213; cases e213; replace hx213_0 := (HB.out.cell (World.block_lt_of_cell? w _ hx213_0)).trans hx213_0; replace p213 := eq_true p213; replace q213 := eq_true q213; have hcz8_0 : w7.cell? ⟨gb212, 0, none⟩ = some (.slice A0_0 l0_0.length c0_0) := (bkC BK212.out 0).trans rfl; have hcz8_1 : w7.cell? ⟨gb212, 1, none⟩ = some (.slice A0_1 l0_1.length c0_1) := (bkC BK212.out 1).trans rfl; have hfz8_0 := blk_frozen BK212.out 0; have hfz8_1 := blk_frozen BK212.out 1) | ((with_reducible refine gate_callee (f := 64) rfl ?_); refine goesL_ (some 18) rfl rfl Try.func64 (by kernel_rfl) rfl #[.agg #[.slice A0_0 l0_0.length c0_0, .slice A0_1 l0_1.length c0_1], .slice (some ad213) l1.length c1, .int .i64 a2] rfl (by (try simp only [List.map_toArray, List.map_cons, List.map_nil]); first | done | rfl | (simp only [List.length_drop, List.length_take]; rfl)) ?_; (with_reducible refine (trishawref02_cost.calls k _ _ l0_0 _ _ l0_1 _ _ l1 a2 t214 _ ?side1 ?side2 ?side3 ?side4 ?side5 ?side6 A6.out).mono ?_); (case side1 => repeat (first | exact (Kd.C_below HR0_0.out HB.out) | (with_reducible refine Kd.C_alloc ?_ _) | (with_reducible refine Kd.C_drewN ?_ _) | (with_reducible refine Kd.C_drew ?_))); (case side2 => exact HC0_0.out); (case side3 => repeat (first | exact (Kd.C_below HR0_1.out HB.out) | (with_reducible refine Kd.C_alloc ?_ _) | (with_reducible refine Kd.C_drewN ?_ _) | (with_reducible refine Kd.C_drew ?_))); (case side4 => exact HC0_1.out); (case side5 => repeat (first | exact (Kd.C_below HR1.out HB.out) | (with_reducible refine Kd.C_alloc ?_ _) | (with_reducible refine Kd.C_drewN ?_ _) | (with_reducible refine Kd.C_drew ?_))); (case side6 => exact HC1.out); rintro e w9 ⟨rfl, hb⟩; refine ⟨_, rfl, ?_⟩; have n0_ := Az0.mk (blk_below (g := gb212) (o := .cells #[.slice A0_0 l0_0.length c0_0, .slice A0_1 l0_1.length c0_1] 41 (0, 0)) (by (with_reducible repeat (first | refine blk_drewN ?_ _ | refine blk_drew ?_ | refine blk_alloc ?_ _)); exact BK212.out) hb); have n1_ := Az0.mk (below_step (by repeat (first | (with_reducible first | exact HB.out | apply baA_ | apply pbN_ | apply bD1_ | refine below_set ?_ GE212.out) | exact HB.out)) hb); clear BK212; clear HB; have BK212 := n0_; have HB := n1_; clear n0_ n1_; (try clear hb); (try clear hb2); (try clear hk); (try clear hi)))
   go_loopg [7, 8, 9] k (fun kq v7 v8 v9 w' => ∃ (x7_1 : Int) (x8_1 : Int) (x9_1 : Int), v7 = .int .i64 x7_1 ∧ v8 = .int .i64 x8_1 ∧ v9 = .int .i64 x9_1 ∧ Az0 (trishawref02_better.l0 kq l1 a2 x7_1 x8_1 x9_1 l0_0 l0_1 = some r) ∧ Az0 (kq ≤ k) ∧ Az0 (w'.heap[gb212]? = some (.cells #[(.slice A0_0 l0_0.length c0_0), (.slice A0_1 l0_1.length c0_1)] 41 (0, 0))) ∧ Az0 (Below w.heap.size w w'))
   case atStart => exact ⟨(rd l1 a2), (t214), (0), (by first | rfl | (simp; done) | (simp [*]; done)), (by first | rfl | (simp; done) | (simp [*]; done)), (by first | rfl | (simp; done) | (simp [*]; done)), H', ⟨Nat.le_refl _⟩, ⟨by (with_reducible repeat (first | refine blk_drewN ?_ _ | refine blk_drew ?_ | refine blk_alloc ?_ _)); exact BK212.out⟩, ⟨by repeat (first | (with_reducible first | exact HB.out | apply baA_ | apply pbN_ | apply bD1_ | refine below_set ?_ GE212.out) | exact HB.out)⟩⟩
   case round =>
    clear H'
    try clear c1
    try clear p2
    try clear q2
    try clear hx2
    try clear c4
    try clear c4b0
    try clear c5
    try clear c5b0
    try clear c6
    try clear c9
    try clear hcz8_0
    try clear hcz8_1
    try clear hfz8_0
    try clear hfz8_1
    try clear hx213_0
    try clear p213
    try clear q213
    obtain ⟨x7_1, x8_1, x9_1, rfl, rfl, rfl, HA, HK1, BK212, HB⟩ := hrel
    cases gk with
    | zero => exact absurd HA.out (by simp [trishawref02_better.l0])
    | succ k1 =>
     have H := HA.out
     clear HA
     simp only [trishawref02_better.l0] at H
     by_cases c10 : 0 ≤ a2
     ·rw [if_pos c10] at H
      have c10b0 : decide (0 ≤ a2) = true := decide_eq_true c10
      clear c10
      by_cases c11 : a2 < (l0_0.length : Int)
      ·rw [if_pos c11] at H
       have c11b0 : decide (a2 < (l0_0.length : Int)) = true := decide_eq_true c11
       clear c11
       by_cases c12 : x9_1 < ((rd_L12 l0_0 a2).length : Int)
       ·rw [if_pos c12] at H
        have c12b0 : decide (x9_1 < ((rd_L12 l0_0 a2).length : Int)) = true := decide_eq_true c12
        clear c12
        replace H := Option.bind_eq_some_iff.mp H
        obtain ⟨t216, A130, H⟩ := H
        replace H : ((trishawref02_cost.f k1 l0_0 l0_1 t216 a2).bind fun t219 => (if t219 < x8_1 then (trishawref02_better.l0 k1 l1 a2 x9_1 t219 (wrap64 (x9_1 + 1)) l0_0 l0_1) else (trishawref02_better.l0 k1 l1 a2 x7_1 x8_1 (wrap64 (x9_1 + 1)) l0_0 l0_1))) = some r := H
        have A13 := Az0.mk A130
        clear A130
        replace H := Option.bind_eq_some_iff.mp H
        obtain ⟨t219, A140, H⟩ := H
        replace H : (if t219 < x8_1 then (trishawref02_better.l0 k1 l1 a2 x9_1 t219 (wrap64 (x9_1 + 1)) l0_0 l0_1) else (trishawref02_better.l0 k1 l1 a2 x7_1 x8_1 (wrap64 (x9_1 + 1)) l0_0 l0_1)) = some r := H
        have A14 := Az0.mk A140
        clear A140
        by_cases c15 : t219 < x8_1
        ·rw [if_pos c15] at H
         have c15b0 : decide (t219 < x8_1) = true := decide_eq_true c15
         clear c15
         have H' := Az0.mk H
         clear H
         have hcz16_0 : wr.cell? ⟨gb212, 0, none⟩ = some (.slice A0_0 l0_0.length c0_0) := (bkC BK212.out 0).trans rfl
         have hcz16_1 : wr.cell? ⟨gb212, 1, none⟩ = some (.slice A0_1 l0_1.length c0_1) := (bkC BK212.out 1).trans rfl
         have hfz16_0 := blk_frozen BK212.out 0
         have hfz16_1 := blk_frozen BK212.out 1
         have p215 : 0 ≤ (a2 : Int) := of_decide_eq_true (by first | (with_reducible assumption) | assumption)
         have q215 : a2 < (l0_0.length : Int) := of_decide_eq_true (by first | (with_reducible assumption) | assumption)
         obtain ⟨ad215, A215_0, c215_0, e215, hx215_0, hl215_0, hi215_0⟩ := at_L12 HR0_0.out a2 p215 q215
         cases e215
         replace hx215_0 := (HB.out.cell (World.block_lt_of_cell? w _ hx215_0)).trans hx215_0
         have HR215_0 := Az0.mk hi215_0
         have HC215_0 := Az0.mk hl215_0
         clear hi215_0 hl215_0
         replace p215 := eq_true p215
         replace q215 := eq_true q215
         try go_wp2
         have n0_ := Az0.mk (blk_drew BK212.out)
         have n1_ := Az0.mk (bD1_ HB.out)
         clear BK212
         clear HB
         have BK212 := n0_
         have HB := n1_
         clear n0_ n1_
         refine start_ (n := 8) (S := fun w' => w'.cell? ⟨gb212, 0, none⟩ = some (.slice (some ad215) l0_0.length c0_0) ∧ w'.cell? ⟨gb212, 1, none⟩ = some (.slice A0_1 l0_1.length c0_1)) (ds := []) #[false, false, false, false, false, false, false, false] (by kernel_rfl) rfl rfl ⟨(bkC BK212.out 0).trans rfl, (bkC BK212.out 1).trans rfl⟩ (fun hHeld => ?_); refine with_tabW trishawref02_better.tab6 trishawref02_better.bits6 (fun HT_ HW_ => ?_)
         generalize wr.drew = w17 at BK212 HB hHeld ⊢
         refine pure_ (i := 1) (N := some 30) (v := ?_) (a' := ?_) #[false, true, false, false, false, false, false, false] rfl rfl (any_of HT_.out (by kernel_rfl)) (fun _ _ _ h => h) (Or.inl ⟨by rfl, ?_⟩) ?_ ?_
         rotate_left
         ·intro w'
          go_simp
          with_reducible rfl
         rotate_left
         ·simp only [Act.put, List.setIfInBounds_toArray, List.set_cons_zero, List.set_cons_succ, i64_w, i32_w]
          rfl
         refine pure_ (i := 2) (N := some 31) (v := ?_) (a' := ?_) #[false, true, true, false, false, false, false, false] rfl rfl (any_of HT_.out (by kernel_rfl)) (fun _ _ _ h => h) (Or.inl ⟨by rfl, ?_⟩) ?_ ?_
         rotate_left
         ·intro w'
          go_simp
          with_reducible rfl
         rotate_left
         ·simp only [Act.put, List.setIfInBounds_toArray, List.set_cons_zero, List.set_cons_succ, i64_w, i32_w]
          rfl
         refine pure_ (i := 3) (N := some 32) (v := ?_) (a' := ?_) #[false, true, true, true, false, false, false, false] rfl rfl (any_of HT_.out (by kernel_rfl)) (fun _ _ _ h => h) (Or.inl ⟨by rfl, ?_⟩) ?_ ?_
         rotate_left
         ·intro w'
          go_simp
          with_reducible rfl
         rotate_left
         ·simp only [Act.put, List.setIfInBounds_toArray, List.set_cons_zero, List.set_cons_succ, i64_w, i32_w]
          rfl
         refine pure_ (i := 5) (N := some 34) (v := ?_) (a' := ?_) #[false, true, true, true, false, true, false, false] rfl rfl (any_of HT_.out (by kernel_rfl)) (fun _ _ _ h => h) (Or.inl ⟨by rfl, ?_⟩) ?_ ?_
         rotate_left
         ·intro w'
          go_simp
          with_reducible rfl
         rotate_left
         ·simp only [Act.put, List.setIfInBounds_toArray, List.set_cons_zero, List.set_cons_succ, i64_w, i32_w]
          rfl
         refine take_ (i := 0) (N := some 29) (v := ?_) (a' := ?_) #[true, true, true, true, false, true, false, false] rfl rfl (take_ofW HT_.out HW_.out (by kernel_rfl)) (fun _ _ _ h => h) (Or.inl ⟨by rfl, ?_⟩) hHeld ?_ ?_
         rotate_left
         ·rintro w' ⟨s0, s1⟩
          go_simp
          with_reducible rfl
         rotate_left
         ·simp only [Act.put, List.setIfInBounds_toArray, List.set_cons_zero, List.set_cons_succ, i64_w, i32_w]
          rfl
         refine one_ (i := 4) (N := some 33) #[true, true, true, true, true, true, false, false] rfl rfl (one_of HT_.out (by kernel_rfl)) (by decide) (fun K hK => ?_)
         refine goes_ Try.func35 (by kernel_rfl) rfl #[.slice (some ad213) l1.length c1, .int .i64 a2, .int .i64 x9_1] (by rfl) rfl rfl (by (try simp only [List.map_toArray, List.map_cons, List.map_nil]); first | done | rfl | (simp only [List.length_drop, List.length_take]; rfl)) ?_
         with_reducible refine (trishawref02_With.calls _ _ l1 a2 x9_1 t216 _ ?side1 ?side2 A13.out).mono ?_
         (case side1 => repeat (first | exact (Kd.C_below HR1.out HB.out) | (with_reducible refine Kd.C_alloc ?_ _) | (with_reducible refine Kd.C_drewN ?_ _) | (with_reducible refine Kd.C_drew ?_)))
         (case side2 => exact HC1.out)
         rintro e w18 ⟨v217, rfl, ho0, hb⟩
         refine ⟨_, rfl, ?_⟩
         have n0_ := Az0.mk (Kd.R_lower ho0 (below_size (by repeat (first | (with_reducible first | exact HB.out | apply baA_ | apply pbN_ | apply bD1_ | refine below_set ?_ GE212.out) | exact HB.out))))
         have n1_ := Az0.mk (blk_below (g := gb212) (o := .cells #[.slice (some ad215) l0_0.length c0_0, .slice A0_1 l0_1.length c0_1] 41 (0, 0)) (by (with_reducible repeat (first | refine blk_drewN ?_ _ | refine blk_drew ?_ | refine blk_alloc ?_ _)); exact BK212.out) hb)
         have n2_ := Az0.mk (below_step (by repeat (first | (with_reducible first | exact HB.out | apply baA_ | apply pbN_ | apply bD1_ | refine below_set ?_ GE212.out) | exact HB.out)) hb)
         clear BK212
         clear HB
         have HO218 := n0_
         have BK212 := n1_
         have HB := n2_
         clear n0_ n1_ n2_
         (try clear hb)
         (try clear hb2)
         (try clear hk)
         (try clear hi)
         (try clear ho0)
         obtain ⟨Ao19, co19, eo19⟩ := Kd.R_slice HO218.out
         (first | subst eo19 | (injection eo19 with f1_ f2_ f3_; have f4_ := f1_.symm; have f5_ := f3_.symm; clear f1_ f2_ f3_; subst f4_; subst f5_))
         refine hK.out _ _ ⟨(bkC BK212.out 0).trans rfl, (bkC BK212.out 1).trans rfl⟩ (fun hHeld => ?_)
         clear hK K
         refine norm_ (a' := ?_) ?_ ?_
         rotate_left
         ·show Act.put _ (some 33) _ = _
          simp only [Act.put, List.setIfInBounds_toArray, List.set_cons_zero, List.set_cons_succ, i64_w, i32_w]
          rfl
         refine one_ (i := 6) (N := some 35) #[true, true, true, true, true, true, true, false] rfl rfl (one_of HT_.out (by kernel_rfl)) (by decide) (fun K hK => ?_)
         refine goes_ Try.func64 (by kernel_rfl) rfl #[.agg #[.slice (some ad215) l0_0.length c0_0, .slice A0_1 l0_1.length c0_1], .slice Ao19 t216.length co19, .int .i64 a2] (by rfl) rfl rfl (by (try simp only [List.map_toArray, List.map_cons, List.map_nil]); first | done | rfl | (simp only [List.length_drop, List.length_take]; rfl)) ?_
         with_reducible refine (trishawref02_cost.calls k1 _ _ l0_0 _ _ l0_1 _ _ t216 a2 t219 _ ?side1 ?side2 ?side3 ?side4 ?side5 ?side6 A14.out).mono ?_
         (case side1 => repeat (first | exact (Kd.C_below HR0_0.out HB.out) | (with_reducible refine Kd.C_alloc ?_ _) | (with_reducible refine Kd.C_drewN ?_ _) | (with_reducible refine Kd.C_drew ?_)))
         (case side2 => exact HC0_0.out)
         (case side3 => repeat (first | exact (Kd.C_below HR0_1.out HB.out) | (with_reducible refine Kd.C_alloc ?_ _) | (with_reducible refine Kd.C_drewN ?_ _) | (with_reducible refine Kd.C_drew ?_)))
         (case side4 => exact HC0_1.out)
         (case side5 => repeat (first | exact (Kd.R_reads' HO218.out).2.2 | (with_reducible refine Kd.C_alloc ?_ _) | (with_reducible refine Kd.C_drewN ?_ _) | (with_reducible refine Kd.C_drew ?_)))
         (case side6 => exact (Kd.R_reads' HO218.out).2.1)
         rintro e w20 ⟨rfl, hb⟩
         refine ⟨_, rfl, ?_⟩
         have n0_ := Az0.mk (Kd.R_below (by (with_reducible repeat (first | apply Kd.R_alloc | apply Kd.R_drewN | apply Kd.R_drew)); exact HO218.out) hb)
         have n1_ := Az0.mk (blk_below (g := gb212) (o := .cells #[.slice (some ad215) l0_0.length c0_0, .slice A0_1 l0_1.length c0_1] 41 (0, 0)) (by (with_reducible repeat (first | refine blk_drewN ?_ _ | refine blk_drew ?_ | refine blk_alloc ?_ _)); exact BK212.out) hb)
         have n2_ := Az0.mk (below_step (by repeat (first | (with_reducible first | exact HB.out | apply baA_ | apply pbN_ | apply bD1_ | refine below_set ?_ GE212.out) | exact HB.out)) hb)
         clear HO218
         clear BK212
         clear HB
         have HO218 := n0_
         have BK212 := n1_
         have HB := n2_
         clear n0_ n1_ n2_
         (try clear hb)
         (try clear hb2)
         (try clear hk)
         (try clear hi)
         refine hK.out _ _ ⟨(bkC BK212.out 0).trans rfl, (bkC BK212.out 1).trans rfl⟩ (fun hHeld => ?_)
         clear hK K
         refine norm_ (a' := ?_) ?_ ?_
         rotate_left
         ·show Act.put _ (some 35) _ = _
          simp only [Act.put, List.setIfInBounds_toArray, List.set_cons_zero, List.set_cons_succ, i64_w, i32_w]
          rfl
         refine pure_ (i := 7) (N := some 10) (v := ?_) (a' := ?_) #[true, true, true, true, true, true, true, true] rfl rfl (any_of HT_.out (by kernel_rfl)) (fun _ _ _ h => h) (Or.inl ⟨by rfl, ?_⟩) ?_ ?_
         rotate_left
         ·intro w'
          go_simp
          with_reducible rfl
         rotate_left
         ·simp only [Act.put, List.setIfInBounds_toArray, List.set_cons_zero, List.set_cons_succ, i64_w, i32_w]
          rfl
         refine done_ (done_of HT_.out (by kernel_rfl)) ?_
         try go_wp2
         go_roundg k1
         case measure => have := HK1.out; omega
         case rel => exact ⟨(x9_1), (t219), (wrap64 (x9_1 + 1)), (by first | rfl | (simp; done) | (simp [*]; done)), (by first | rfl | (simp; done) | (simp [*]; done)), (by first | rfl | (simp; done) | (simp [*]; done)), H', ⟨by have := HK1.out; omega⟩, ⟨by (with_reducible repeat (first | refine blk_drewN ?_ _ | refine blk_drew ?_ | refine blk_alloc ?_ _)); exact BK212.out⟩, ⟨by repeat (first | (with_reducible first | exact HB.out | apply baA_ | apply pbN_ | apply bD1_ | refine below_set ?_ GE212.out) | exact HB.out)⟩⟩
        ·rw [if_neg c15] at H
         have c15b0 : decide (t219 < x8_1) = false := decide_eq_false c15
         clear c15
         have H' := Az0.mk H
         clear H
         have hcz21_0 : wr.cell? ⟨gb212, 0, none⟩ = some (.slice A0_0 l0_0.length c0_0) := (bkC BK212.out 0).trans rfl
         have hcz21_1 : wr.cell? ⟨gb212, 1, none⟩ = some (.slice A0_1 l0_1.length c0_1) := (bkC BK212.out 1).trans rfl
         have hfz21_0 := blk_frozen BK212.out 0
         have hfz21_1 := blk_frozen BK212.out 1
         have p215 : 0 ≤ (a2 : Int) := of_decide_eq_true (by first | (with_reducible assumption) | assumption)
         have q215 : a2 < (l0_0.length : Int) := of_decide_eq_true (by first | (with_reducible assumption) | assumption)
         obtain ⟨ad215, A215_0, c215_0, e215, hx215_0, hl215_0, hi215_0⟩ := at_L12 HR0_0.out a2 p215 q215
         cases e215
         replace hx215_0 := (HB.out.cell (World.block_lt_of_cell? w _ hx215_0)).trans hx215_0
         have HR215_0 := Az0.mk hi215_0
         have HC215_0 := Az0.mk hl215_0
         clear hi215_0 hl215_0
         replace p215 := eq_true p215
         replace q215 := eq_true q215
         try go_wp2
         have n0_ := Az0.mk (blk_drew BK212.out)
         have n1_ := Az0.mk (bD1_ HB.out)
         clear BK212
         clear HB
         have BK212 := n0_
         have HB := n1_
         clear n0_ n1_
         refine start_ (n := 8) (S := fun w' => w'.cell? ⟨gb212, 0, none⟩ = some (.slice (some ad215) l0_0.length c0_0) ∧ w'.cell? ⟨gb212, 1, none⟩ = some (.slice A0_1 l0_1.length c0_1)) (ds := []) #[false, false, false, false, false, false, false, false] (by kernel_rfl) rfl rfl ⟨(bkC BK212.out 0).trans rfl, (bkC BK212.out 1).trans rfl⟩ (fun hHeld => ?_); refine with_tabW trishawref02_better.tab6 trishawref02_better.bits6 (fun HT_ HW_ => ?_)
         generalize wr.drew = w22 at BK212 HB hHeld ⊢
         refine pure_ (i := 1) (N := some 30) (v := ?_) (a' := ?_) #[false, true, false, false, false, false, false, false] rfl rfl (any_of HT_.out (by kernel_rfl)) (fun _ _ _ h => h) (Or.inl ⟨by rfl, ?_⟩) ?_ ?_
         rotate_left
         ·intro w'
          go_simp
          with_reducible rfl
         rotate_left
         ·simp only [Act.put, List.setIfInBounds_toArray, List.set_cons_zero, List.set_cons_succ, i64_w, i32_w]
          rfl
         refine pure_ (i := 2) (N := some 31) (v := ?_) (a' := ?_) #[false, true, true, false, false, false, false, false] rfl rfl (any_of HT_.out (by kernel_rfl)) (fun _ _ _ h => h) (Or.inl ⟨by rfl, ?_⟩) ?_ ?_
         rotate_left
         ·intro w'
          go_simp
          with_reducible rfl
         rotate_left
         ·simp only [Act.put, List.setIfInBounds_toArray, List.set_cons_zero, List.set_cons_succ, i64_w, i32_w]
          rfl
         refine pure_ (i := 3) (N := some 32) (v := ?_) (a' := ?_) #[false, true, true, true, false, false, false, false] rfl rfl (any_of HT_.out (by kernel_rfl)) (fun _ _ _ h => h) (Or.inl ⟨by rfl, ?_⟩) ?_ ?_
         rotate_left
         ·intro w'
          go_simp
          with_reducible rfl
         rotate_left
         ·simp only [Act.put, List.setIfInBounds_toArray, List.set_cons_zero, List.set_cons_succ, i64_w, i32_w]
          rfl
         refine pure_ (i := 5) (N := some 34) (v := ?_) (a' := ?_) #[false, true, true, true, false, true, false, false] rfl rfl (any_of HT_.out (by kernel_rfl)) (fun _ _ _ h => h) (Or.inl ⟨by rfl, ?_⟩) ?_ ?_
         rotate_left
         ·intro w'
          go_simp
          with_reducible rfl
         rotate_left
         ·simp only [Act.put, List.setIfInBounds_toArray, List.set_cons_zero, List.set_cons_succ, i64_w, i32_w]
          rfl
         refine take_ (i := 0) (N := some 29) (v := ?_) (a' := ?_) #[true, true, true, true, false, true, false, false] rfl rfl (take_ofW HT_.out HW_.out (by kernel_rfl)) (fun _ _ _ h => h) (Or.inl ⟨by rfl, ?_⟩) hHeld ?_ ?_
         rotate_left
         ·rintro w' ⟨s0, s1⟩
          go_simp
          with_reducible rfl
         rotate_left
         ·simp only [Act.put, List.setIfInBounds_toArray, List.set_cons_zero, List.set_cons_succ, i64_w, i32_w]
          rfl
         refine one_ (i := 4) (N := some 33) #[true, true, true, true, true, true, false, false] rfl rfl (one_of HT_.out (by kernel_rfl)) (by decide) (fun K hK => ?_)
         refine goes_ Try.func35 (by kernel_rfl) rfl #[.slice (some ad213) l1.length c1, .int .i64 a2, .int .i64 x9_1] (by rfl) rfl rfl (by (try simp only [List.map_toArray, List.map_cons, List.map_nil]); first | done | rfl | (simp only [List.length_drop, List.length_take]; rfl)) ?_
         with_reducible refine (trishawref02_With.calls _ _ l1 a2 x9_1 t216 _ ?side1 ?side2 A13.out).mono ?_
         (case side1 => repeat (first | exact (Kd.C_below HR1.out HB.out) | (with_reducible refine Kd.C_alloc ?_ _) | (with_reducible refine Kd.C_drewN ?_ _) | (with_reducible refine Kd.C_drew ?_)))
         (case side2 => exact HC1.out)
         rintro e w23 ⟨v217, rfl, ho0, hb⟩
         refine ⟨_, rfl, ?_⟩
         have n0_ := Az0.mk (Kd.R_lower ho0 (below_size (by repeat (first | (with_reducible first | exact HB.out | apply baA_ | apply pbN_ | apply bD1_ | refine below_set ?_ GE212.out) | exact HB.out))))
         have n1_ := Az0.mk (blk_below (g := gb212) (o := .cells #[.slice (some ad215) l0_0.length c0_0, .slice A0_1 l0_1.length c0_1] 41 (0, 0)) (by (with_reducible repeat (first | refine blk_drewN ?_ _ | refine blk_drew ?_ | refine blk_alloc ?_ _)); exact BK212.out) hb)
         have n2_ := Az0.mk (below_step (by repeat (first | (with_reducible first | exact HB.out | apply baA_ | apply pbN_ | apply bD1_ | refine below_set ?_ GE212.out) | exact HB.out)) hb)
         clear BK212
         clear HB
         have HO218 := n0_
         have BK212 := n1_
         have HB := n2_
         clear n0_ n1_ n2_
         (try clear hb)
         (try clear hb2)
         (try clear hk)
         (try clear hi)
         (try clear ho0)
         obtain ⟨Ao24, co24, eo24⟩ := Kd.R_slice HO218.out
         (first | subst eo24 | (injection eo24 with f1_ f2_ f3_; have f4_ := f1_.symm; have f5_ := f3_.symm; clear f1_ f2_ f3_; subst f4_; subst f5_))
         refine hK.out _ _ ⟨(bkC BK212.out 0).trans rfl, (bkC BK212.out 1).trans rfl⟩ (fun hHeld => ?_)
         clear hK K
         refine norm_ (a' := ?_) ?_ ?_
         rotate_left
         ·show Act.put _ (some 33) _ = _
          simp only [Act.put, List.setIfInBounds_toArray, List.set_cons_zero, List.set_cons_succ, i64_w, i32_w]
          rfl
         refine one_ (i := 6) (N := some 35) #[true, true, true, true, true, true, true, false] rfl rfl (one_of HT_.out (by kernel_rfl)) (by decide) (fun K hK => ?_)
         refine goes_ Try.func64 (by kernel_rfl) rfl #[.agg #[.slice (some ad215) l0_0.length c0_0, .slice A0_1 l0_1.length c0_1], .slice Ao24 t216.length co24, .int .i64 a2] (by rfl) rfl rfl (by (try simp only [List.map_toArray, List.map_cons, List.map_nil]); first | done | rfl | (simp only [List.length_drop, List.length_take]; rfl)) ?_
         with_reducible refine (trishawref02_cost.calls k1 _ _ l0_0 _ _ l0_1 _ _ t216 a2 t219 _ ?side1 ?side2 ?side3 ?side4 ?side5 ?side6 A14.out).mono ?_
         (case side1 => repeat (first | exact (Kd.C_below HR0_0.out HB.out) | (with_reducible refine Kd.C_alloc ?_ _) | (with_reducible refine Kd.C_drewN ?_ _) | (with_reducible refine Kd.C_drew ?_)))
         (case side2 => exact HC0_0.out)
         (case side3 => repeat (first | exact (Kd.C_below HR0_1.out HB.out) | (with_reducible refine Kd.C_alloc ?_ _) | (with_reducible refine Kd.C_drewN ?_ _) | (with_reducible refine Kd.C_drew ?_)))
         (case side4 => exact HC0_1.out)
         (case side5 => repeat (first | exact (Kd.R_reads' HO218.out).2.2 | (with_reducible refine Kd.C_alloc ?_ _) | (with_reducible refine Kd.C_drewN ?_ _) | (with_reducible refine Kd.C_drew ?_)))
         (case side6 => exact (Kd.R_reads' HO218.out).2.1)
         rintro e w25 ⟨rfl, hb⟩
         refine ⟨_, rfl, ?_⟩
         have n0_ := Az0.mk (Kd.R_below (by (with_reducible repeat (first | apply Kd.R_alloc | apply Kd.R_drewN | apply Kd.R_drew)); exact HO218.out) hb)
         have n1_ := Az0.mk (blk_below (g := gb212) (o := .cells #[.slice (some ad215) l0_0.length c0_0, .slice A0_1 l0_1.length c0_1] 41 (0, 0)) (by (with_reducible repeat (first | refine blk_drewN ?_ _ | refine blk_drew ?_ | refine blk_alloc ?_ _)); exact BK212.out) hb)
         have n2_ := Az0.mk (below_step (by repeat (first | (with_reducible first | exact HB.out | apply baA_ | apply pbN_ | apply bD1_ | refine below_set ?_ GE212.out) | exact HB.out)) hb)
         clear HO218
         clear BK212
         clear HB
         have HO218 := n0_
         have BK212 := n1_
         have HB := n2_
         clear n0_ n1_ n2_
         (try clear hb)
         (try clear hb2)
         (try clear hk)
         (try clear hi)
         refine hK.out _ _ ⟨(bkC BK212.out 0).trans rfl, (bkC BK212.out 1).trans rfl⟩ (fun hHeld => ?_)
         clear hK K
         refine norm_ (a' := ?_) ?_ ?_
         rotate_left
         ·show Act.put _ (some 35) _ = _
          simp only [Act.put, List.setIfInBounds_toArray, List.set_cons_zero, List.set_cons_succ, i64_w, i32_w]
          rfl
         refine pure_ (i := 7) (N := some 10) (v := ?_) (a' := ?_) #[true, true, true, true, true, true, true, true] rfl rfl (any_of HT_.out (by kernel_rfl)) (fun _ _ _ h => h) (Or.inl ⟨by rfl, ?_⟩) ?_ ?_
         rotate_left
         ·intro w'
          go_simp
          with_reducible rfl
         rotate_left
         ·simp only [Act.put, List.setIfInBounds_toArray, List.set_cons_zero, List.set_cons_succ, i64_w, i32_w]
          rfl
         refine done_ (done_of HT_.out (by kernel_rfl)) ?_
         try go_wp2
         go_roundg k1
         case measure => have := HK1.out; omega
         case rel => exact ⟨(x7_1), (x8_1), (wrap64 (x9_1 + 1)), (by first | rfl | (simp; done) | (simp [*]; done)), (by first | rfl | (simp; done) | (simp [*]; done)), (by first | rfl | (simp; done) | (simp [*]; done)), H', ⟨by have := HK1.out; omega⟩, ⟨by (with_reducible repeat (first | refine blk_drewN ?_ _ | refine blk_drew ?_ | refine blk_alloc ?_ _)); exact BK212.out⟩, ⟨by repeat (first | (with_reducible first | exact HB.out | apply baA_ | apply pbN_ | apply bD1_ | refine below_set ?_ GE212.out) | exact HB.out)⟩⟩
       ·rw [if_neg c12] at H
        have c12b0 : decide (x9_1 < ((rd_L12 l0_0 a2).length : Int)) = false := decide_eq_false c12
        clear c12
        obtain rfl := Option.some.inj H
        have hcz26_0 : wr.cell? ⟨gb212, 0, none⟩ = some (.slice A0_0 l0_0.length c0_0) := (bkC BK212.out 0).trans rfl
        have hcz26_1 : wr.cell? ⟨gb212, 1, none⟩ = some (.slice A0_1 l0_1.length c0_1) := (bkC BK212.out 1).trans rfl
        have hfz26_0 := blk_frozen BK212.out 0
        have hfz26_1 := blk_frozen BK212.out 1
        have p215 : 0 ≤ (a2 : Int) := of_decide_eq_true (by first | (with_reducible assumption) | assumption)
        have q215 : a2 < (l0_0.length : Int) := of_decide_eq_true (by first | (with_reducible assumption) | assumption)
        obtain ⟨ad215, A215_0, c215_0, e215, hx215_0, hl215_0, hi215_0⟩ := at_L12 HR0_0.out a2 p215 q215
        cases e215
        replace hx215_0 := (HB.out.cell (World.block_lt_of_cell? w _ hx215_0)).trans hx215_0
        have HR215_0 := Az0.mk hi215_0
        have HC215_0 := Az0.mk hl215_0
        clear hi215_0 hl215_0
        replace p215 := eq_true p215
        replace q215 := eq_true q215
        go_wp2
        go_ret
        exact ⟨by first | rfl | (simp [errW_none, errW_some] <;> rfl) | (simp [*, errW_none, errW_some] <;> rfl), by repeat (first | (with_reducible first | exact HB.out | apply baA_ | apply pbN_ | apply bD1_ | refine below_set ?_ GE212.out) | exact HB.out)⟩
      ·rw [if_neg c11] at H
       exact absurd H (by simp)
     ·rw [if_neg c10] at H
      exact absurd H (by simp)
  ·rw [if_neg c5] at H
   exact absurd H (by simp)
 ·rw [if_neg c4] at H
  exact absurd H (by simp)
end Go.Proofs.Ytjgbdicbdlollaa.B
namespace Go.Proofs.Ytjgbdicbdlollaa.B
open Go.RowKit Go.Proofs.YtjgbdicbdlollaaW.PrintWords Go.Proofs.YtjgbdicbdlollaaW.PrintLast Go.Proofs.YtjgbdicbdlollaaW.PrintMore
attribute [local go_sem] max2_int min2_int max_two min_two max_three min_three max_four min_four   -- for this text's walks alone
set_option linter.unusedVariables false
set_option linter.unusedSimpArgs false
def trishawref02_step.l0 : Nat → List Int → Int → List (List Int) → List (List Int) → Option (List Int × Bool)
  | 0, _, _, _, _ => none
  | k + 1, x1, x6, x221000, x221001 => if x6 < (x1.length : Int) then ((trishawref02_better.f k x221000 x221001 x1 x6).bind fun t221 => (if 0 ≤ x6 then (if t221 = (rd x1 x6) then (trishawref02_step.l0 k x1 (wrap64 (x6 + 1)) x221000 x221001) else ((trishawref02_With.f x1 x6 t221).bind fun t223 => (some (t223, true)))) else (none))) else (some (([] : List Int), false))
def trishawref02_step.f (k : Nat) (l0_0 : List (List Int)) (l0_1 : List (List Int)) (l1 : List Int) : Option (List Int × Bool) := trishawref02_step.l0 k l1 0 l0_0 l0_1
set_option maxHeartbeats 8000000 in
set_option maxRecDepth 100000 in
theorem trishawref02_step.calls (k : Nat) (A0_0 : Option Addr) (c0_0 : Nat) (l0_0 : List (List Int)) (A0_1 : Option Addr) (c0_1 : Nat) (l0_1 : List (List Int)) (A1 : Option Addr) (c1 : Nat) (l1 : List Int) (r1 : List Int) (r2 : Bool) (w : World) (hr0_0 : Kd.C (Kd.slice 3 (Kd.int .i64)) w A0_0 l0_0.length l0_0) (hc0_0 : l0_0.length ≤ c0_0) (hr0_1 : Kd.C (Kd.slice 3 (Kd.int .i64)) w A0_1 l0_1.length l0_1) (hc0_1 : l0_1.length ≤ c0_1) (hr1 : Kd.C (Kd.int .i64) w A1 l1.length l1) (hc1 : l1.length ≤ c1) (h : trishawref02_step.f k l0_0 l0_1 l1 = some (r1, r2)) :
  Calls Try.prog 69 #[.agg #[.slice A0_0 l0_0.length c0_0, .slice A0_1 l0_1.length c0_1], .slice A1 l1.length c1] w fun e w' => ∃ v0_ : Value, e = .returned (.tuple #[v0_, .bool r2]) ∧ Kd.R (Kd.int .i64) 3 w' w.heap.size (fun _ => True) v0_ r1 ∧ Below w.heap.size w w' := by
 have hu41 := Try.underlying41
 have HR0_0 := Az0.mk hr0_0
 have HC0_0 := Az0.mk hc0_0
 clear hr0_0 hc0_0
 have HR0_1 := Az0.mk hr0_1
 have HC0_1 := Az0.mk hc0_1
 clear hr0_1 hc0_1
 have HR1 := Az0.mk hr1
 have HC1 := Az0.mk hc1
 clear hr1 hc1
 have HB := Az0.mk (Below.refl w.heap.size w)
 have H : (trishawref02_step.l0 k l1 0 l0_0 l0_1) = some (r1, r2) := h
 clear h
 have H' := Az0.mk H
 clear H
 go_enter Try.func69, Try.ntmps69
 go_wp2_with (first | ((with_reducible refine gate_dst (N := 2) rfl ?_); refine box_event ?hg (N := 2) ?hd (cs := #[.slice A0_0 l0_0.length c0_0, .slice A0_1 l0_1.length c0_1]) (t := 41) ?hr ?_; (case hd => rfl); (case hg => rfl); (case hr => first | (go_simp; done) | (go_simp; rfl)); intro gb220 hg w3 hbox hb; have n0_ := Az0.mk (below_step (by repeat (first | (with_reducible first | exact HB.out | apply baA_ | apply pbN_ | apply bD1_) | exact HB.out)) hb); have n1_ := Az0.mk (hbox); have n2_ := Az0.mk ((by rw [hg]; exact (below_size (by repeat (first | (with_reducible first | exact HB.out | apply baA_ | apply pbN_ | apply bD1_) | exact HB.out))) : w.heap.size ≤ gb220)); have n3_ := Az0.mk ((by rw [hg]; exact (below_size (by repeat (first | (with_reducible first | exact HB.out | apply baA_ | apply pbN_ | apply bD1_) | exact HB.out))) : w.heap.size ≤ gb220)); clear HB; have HB := n0_; have BK220 := n1_; have GW220 := n2_; have GE220 := n3_; clear n0_ n1_ n2_ n3_; clear hb hbox hg))
 go_loopg [6] k (fun kq v6 w' => ∃ (x6_1 : Int), v6 = .int .i64 x6_1 ∧ Az0 (trishawref02_step.l0 kq l1 x6_1 l0_0 l0_1 = some (r1, r2)) ∧ Az0 (kq ≤ k) ∧ Az0 (w'.heap[gb220]? = some (.cells #[(.slice A0_0 l0_0.length c0_0), (.slice A0_1 l0_1.length c0_1)] 41 (0, 0))) ∧ Az0 (Below w.heap.size w w'))
 case atStart => exact ⟨(0), (by first | rfl | (simp; done) | (simp [*]; done)), H', ⟨Nat.le_refl _⟩, ⟨by (with_reducible repeat (first | refine blk_drewN ?_ _ | refine blk_drew ?_ | refine blk_alloc ?_ _)); exact BK220.out⟩, ⟨by repeat (first | (with_reducible first | exact HB.out | apply baA_ | apply pbN_ | apply bD1_ | refine below_set ?_ GE220.out) | exact HB.out)⟩⟩
 case round =>
  clear H'
  try clear c1
  try clear p2
  obtain ⟨x6_1, rfl, HA, HK1, BK220, HB⟩ := hrel
  cases gk with
  | zero => exact absurd HA.out (by simp [trishawref02_step.l0])
  | succ k1 =>
   have H := HA.out
   clear HA
   simp only [trishawref02_step.l0] at H
   by_cases c4 : x6_1 < (l1.length : Int)
   ·rw [if_pos c4] at H
    have c4b0 : decide (x6_1 < (l1.length : Int)) = true := decide_eq_true c4
    clear c4
    replace H := Option.bind_eq_some_iff.mp H
    obtain ⟨t221, A50, H⟩ := H
    replace H : (if 0 ≤ x6_1 then (if t221 = (rd l1 x6_1) then (trishawref02_step.l0 k1 l1 (wrap64 (x6_1 + 1)) l0_0 l0_1) else ((trishawref02_With.f l1 x6_1 t221).bind fun t223 => (some (t223, true)))) else (none)) = some (r1, r2) := H
    have A5 := Az0.mk A50
    clear A50
    by_cases c6 : 0 ≤ x6_1
    ·rw [if_pos c6] at H
     have c6b0 : decide (0 ≤ x6_1) = true := decide_eq_true c6
     clear c6
     by_cases c7 : t221 = (rd l1 x6_1)
     ·rw [if_pos c7] at H
      have c7b0 : (t221 == (rd l1 x6_1)) = true := beq_iff_eq.mpr c7
      have c7b1 : (t221 != (rd l1 x6_1)) = false := bne_eq_false_iff_eq.mpr c7
      clear c7
      have H' := Az0.mk H
      clear H
      have hcz8_0 : wr.cell? ⟨gb220, 0, none⟩ = some (.slice A0_0 l0_0.length c0_0) := (bkC BK220.out 0).trans rfl
      have hcz8_1 : wr.cell? ⟨gb220, 1, none⟩ = some (.slice A0_1 l0_1.length c0_1) := (bkC BK220.out 1).trans rfl
      have hfz8_0 := blk_frozen BK220.out 0
      have hfz8_1 := blk_frozen BK220.out 1
      go_wp2_with (first | ((with_reducible refine gate_callee (f := 92) rfl ?_); refine goesL_ (some 17) rfl rfl Try.func92 (by kernel_rfl) rfl #[.agg #[.slice A0_0 l0_0.length c0_0, .slice A0_1 l0_1.length c0_1], .slice A1 l1.length c1, .int .i64 x6_1] rfl (by (try simp only [List.map_toArray, List.map_cons, List.map_nil]); first | done | rfl | (simp only [List.length_drop, List.length_take]; rfl)) ?_; (with_reducible refine (trishawref02_better.calls k1 _ _ l0_0 _ _ l0_1 _ _ l1 x6_1 t221 _ ?side1 ?side2 ?side3 ?side4 ?side5 ?side6 A5.out).mono ?_); (case side1 => repeat (first | exact (Kd.C_below HR0_0.out HB.out) | (with_reducible refine Kd.C_alloc ?_ _) | (with_reducible refine Kd.C_drewN ?_ _) | (with_reducible refine Kd.C_drew ?_))); (case side2 => exact HC0_0.out); (case side3 => repeat (first | exact (Kd.C_below HR0_1.out HB.out) | (with_reducible refine Kd.C_alloc ?_ _) | (with_reducible refine Kd.C_drewN ?_ _) | (with_reducible refine Kd.C_drew ?_))); (case side4 => exact HC0_1.out); (case side5 => repeat (first | exact (Kd.C_below HR1.out HB.out) | (with_reducible refine Kd.C_alloc ?_ _) | (with_reducible refine Kd.C_drewN ?_ _) | (with_reducible refine Kd.C_drew ?_))); (case side6 => exact HC1.out); rintro e w9 ⟨rfl, hb⟩; refine ⟨_, rfl, ?_⟩; have n0_ := Az0.mk (blk_below (g := gb220) (o := .cells #[.slice A0_0 l0_0.length c0_0, .slice A0_1 l0_1.length c0_1] 41 (0, 0)) (by (with_reducible repeat (first | refine blk_drewN ?_ _ | refine blk_drew ?_ | refine blk_alloc ?_ _)); exact BK220.out) hb); have n1_ := Az0.mk (below_step (by repeat (first | (with_reducible first | exact HB.out | apply baA_ | apply pbN_ | apply bD1_ | refine below_set ?_ GE220.out) | exact HB.out)) hb); clear BK220; clear HB; have BK220 := n0_; have HB := n1_; clear n0_ n1_; (try clear hb); (try clear hb2); (try clear hk); (try clear hi); have p222 : 0 ≤ (x6_1 : Int) := of_decide_eq_true (by first | (with_reducible assumption) | assumption); have q222 : x6_1 < (l1.length : Int) := of_decide_eq_true (by first | (with_reducible assumption) | assumption); obtain ⟨ad222, e222, hx222_0⟩ := Kd.at_int HR1.out x6_1 p222 q222; cases e222; replace hx222_0 := (HB.out.cell (World.block_lt_of_cell? w _ hx222_0)).trans hx222_0; replace p222 := eq_true p222; replace q222 := eq_true q222))
      go_roundg k1
      case measure => have := HK1.out; omega
      case rel => exact ⟨(wrap64 (x6_1 + 1)), (by first | rfl | (simp; done) | (simp [*]; done)), H', ⟨by have := HK1.out; omega⟩, ⟨by (with_reducible repeat (first | refine blk_drewN ?_ _ | refine blk_drew ?_ | refine blk_alloc ?_ _)); exact BK220.out⟩, ⟨by repeat (first | (with_reducible first | exact HB.out | apply baA_ | apply pbN_ | apply bD1_ | refine below_set ?_ GE220.out) | exact HB.out)⟩⟩
     ·rw [if_neg c7] at H
      have c7b0 : (t221 == (rd l1 x6_1)) = false := beq_eq_false_iff_ne.mpr c7
      have c7b1 : (t221 != (rd l1 x6_1)) = true := bne_iff_ne.mpr c7
      replace H := Option.bind_eq_some_iff.mp H
      obtain ⟨t223, A100, H⟩ := H
      replace H : (some (t223, true)) = some (r1, r2) := H
      have A10 := Az0.mk A100
      clear A100
      simp only [Option.some.injEq, Prod.mk.injEq] at H
      obtain ⟨rfl, rfl⟩ := H
      have hcz11_0 : wr.cell? ⟨gb220, 0, none⟩ = some (.slice A0_0 l0_0.length c0_0) := (bkC BK220.out 0).trans rfl
      have hcz11_1 : wr.cell? ⟨gb220, 1, none⟩ = some (.slice A0_1 l0_1.length c0_1) := (bkC BK220.out 1).trans rfl
      have hfz11_0 := blk_frozen BK220.out 0
      have hfz11_1 := blk_frozen BK220.out 1
      go_wp2_with (first | ((with_reducible refine gate_callee (f := 92) rfl ?_); refine goesL_ (some 17) rfl rfl Try.func92 (by kernel_rfl) rfl #[.agg #[.slice A0_0 l0_0.length c0_0, .slice A0_1 l0_1.length c0_1], .slice A1 l1.length c1, .int .i64 x6_1] rfl (by (try simp only [List.map_toArray, List.map_cons, List.map_nil]); first | done | rfl | (simp only [List.length_drop, List.length_take]; rfl)) ?_; (with_reducible refine (trishawref02_better.calls k1 _ _ l0_0 _ _ l0_1 _ _ l1 x6_1 t221 _ ?side1 ?side2 ?side3 ?side4 ?side5 ?side6 A5.out).mono ?_); (case side1 => repeat (first | exact (Kd.C_below HR0_0.out HB.out) | (with_reducible refine Kd.C_alloc ?_ _) | (with_reducible refine Kd.C_drewN ?_ _) | (with_reducible refine Kd.C_drew ?_))); (case side2 => exact HC0_0.out); (case side3 => repeat (first | exact (Kd.C_below HR0_1.out HB.out) | (with_reducible refine Kd.C_alloc ?_ _) | (with_reducible refine Kd.C_drewN ?_ _) | (with_reducible refine Kd.C_drew ?_))); (case side4 => exact HC0_1.out); (case side5 => repeat (first | exact (Kd.C_below HR1.out HB.out) | (with_reducible refine Kd.C_alloc ?_ _) | (with_reducible refine Kd.C_drewN ?_ _) | (with_reducible refine Kd.C_drew ?_))); (case side6 => exact HC1.out); rintro e w12 ⟨rfl, hb⟩; refine ⟨_, rfl, ?_⟩; have n0_ := Az0.mk (blk_below (g := gb220) (o := .cells #[.slice A0_0 l0_0.length c0_0, .slice A0_1 l0_1.length c0_1] 41 (0, 0)) (by (with_reducible repeat (first | refine blk_drewN ?_ _ | refine blk_drew ?_ | refine blk_alloc ?_ _)); exact BK220.out) hb); have n1_ := Az0.mk (below_step (by repeat (first | (with_reducible first | exact HB.out | apply baA_ | apply pbN_ | apply bD1_ | refine below_set ?_ GE220.out) | exact HB.out)) hb); clear BK220; clear HB; have BK220 := n0_; have HB := n1_; clear n0_ n1_; (try clear hb); (try clear hb2); (try clear hk); (try clear hi); have p222 : 0 ≤ (x6_1 : Int) := of_decide_eq_true (by first | (with_reducible assumption) | assumption); have q222 : x6_1 < (l1.length : Int) := of_decide_eq_true (by first | (with_reducible assumption) | assumption); obtain ⟨ad222, e222, hx222_0⟩ := Kd.at_int HR1.out x6_1 p222 q222; cases e222; replace hx222_0 := (HB.out.cell (World.block_lt_of_cell? w _ hx222_0)).trans hx222_0; replace p222 := eq_true p222; replace q222 := eq_true q222) | ((with_reducible refine gate_callee (f := 35) rfl ?_); refine goesL_ (some 27) rfl rfl Try.func35 (by kernel_rfl) rfl #[.slice (some ad222) l1.length c1, .int .i64 x6_1, .int .i64 t221] rfl (by (try simp only [List.map_toArray, List.map_cons, List.map_nil]); first | done | rfl | (simp only [List.length_drop, List.length_take]; rfl)) ?_; (with_reducible refine (trishawref02_With.calls _ _ l1 x6_1 t221 t223 _ ?side1 ?side2 A10.out).mono ?_); (case side1 => repeat (first | exact (Kd.C_below HR1.out HB.out) | (with_reducible refine Kd.C_alloc ?_ _) | (with_reducible refine Kd.C_drewN ?_ _) | (with_reducible refine Kd.C_drew ?_))); (case side2 => exact HC1.out); rintro e w13 ⟨v224, rfl, ho0, hb⟩; refine ⟨_, rfl, ?_⟩; have n0_ := Az0.mk (Kd.R_lower ho0 (below_size (by repeat (first | (with_reducible first | exact HB.out | apply baA_ | apply pbN_ | apply bD1_ | refine below_set ?_ GE220.out) | exact HB.out)))); have n1_ := Az0.mk (blk_below (g := gb220) (o := .cells #[.slice A0_0 l0_0.length c0_0, .slice A0_1 l0_1.length c0_1] 41 (0, 0)) (by (with_reducible repeat (first | refine blk_drewN ?_ _ | refine blk_drew ?_ | refine blk_alloc ?_ _)); exact BK220.out) hb); have n2_ := Az0.mk (below_step (by repeat (first | (with_reducible first | exact HB.out | apply baA_ | apply pbN_ | apply bD1_ | refine below_set ?_ GE220.out) | exact HB.out)) hb); clear BK220; clear HB; have HO225 := n0_; have BK220 := n1_; have HB := n2_; clear n0_ n1_ n2_; (try clear hb); (try clear hb2); (try clear hk); (try clear hi); (try clear ho0)))
      go_ret2
      exact ⟨_, by first | rfl | (simp [errW_none, errW_some] <;> rfl) | (simp [*, errW_none, errW_some] <;> rfl), by (with_reducible repeat (first | apply Kd.R_alloc | apply Kd.R_drewN | apply Kd.R_drew)); exact HO225.out, by repeat (first | (with_reducible first | exact HB.out | apply baA_ | apply pbN_ | apply bD1_ | refine below_set ?_ GE220.out) | exact HB.out)⟩
    ·rw [if_neg c6] at H
     exact absurd H (by simp)
   ·rw [if_neg c4] at H
    have c4b0 : decide (x6_1 < (l1.length : Int)) = false := decide_eq_false c4
    clear c4
    simp only [Option.some.injEq, Prod.mk.injEq] at H
    obtain ⟨rfl, rfl⟩ := H
    go_wp2
    go_ret2
    exact ⟨_, by first | rfl | (simp [errW_none, errW_some] <;> rfl) | (simp [*, errW_none, errW_some] <;> rfl), by first | exact Kd.R_nil _ _ _ _ _ | exact Kd.N_nil _ _ _ _ _ | exact Kd.V_nil _ _ _ _ _ | exact Kd.Q_nil _ _ _ _ _ | exact Kd.S_nil _ _ _ _ _, by repeat (first | (with_reducible first | exact HB.out | apply baA_ | apply pbN_ | apply bD1_ | refine below_set ?_ GE220.out) | exact HB.out)⟩
end Go.Proofs.Ytjgbdicbdlollaa.B
