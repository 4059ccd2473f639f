/- Texts behind the row of JamSame, part 3. -/
import Derived.Below
import Derived.Deep.Draws
import Derived.Deep.AppendLies
import Derived.Maps.AppendAt
import Derived.OwnWalk
import Derived.Laws.BytesArg
import Derived.Laws.MakeOwn
import Derived.Laws.OwnMore
import Derived.Deep.OwnRows
import Derived.Tactics
import Derived.Lib.ConvBytes
import Derived.Laws.Slices
import Derived.WalkKit
import Derived.KernelRfl
import Derived.RowKit3
import Derived.Deep.LoopGhost
import Derived.Deep.QuietTactic
import Derived.BigQuiet
import Derived.WideLaws
import Derived.Deep.DeepCutAuto
import Derived.Deep.CutBlock
import Derived.Deep.RegionHeld3
import Derived.Laws.Rows
import Derived.Lib.AppendStr
import Derived.ArgAppend
import Derived.Laws.IdiomCopy
import Derived.RowKit
import Derived.OrdersHeld
import Derived.Laws.BitsLemmas
import Derived.Laws.StructEq
import Derived.Test.YtjgbdicbdlollaaProg
import Derived.WalkSpells
import Derived.MapKept
import Derived.Maps.RangeWalk
import Derived.Shelf.SlSortCmp.SmallK
import Derived.Ground.SlsfProg
import Derived.Test.YtjgbdicbdlollaaCP1
import Derived.Test.YtjgbdicbdlollaaCP2
namespace Go.Proofs.Ytjgbdicbdlollaa.B
open Go.RowKit Go.Proofs.YtjgbdicbdlollaaW.PrintWords Go.Proofs.YtjgbdicbdlollaaW.PrintLast Go.Proofs.YtjgbdicbdlollaaW.PrintMore
set_option linter.unusedVariables false
set_option linter.unusedSimpArgs false
/-- A row of tolls that read takes, of n drivers. -/
def tollOk (n : Nat) (t : List Int) : Bool := decide (t.length = n) && decide (0 ≤ minU t (t.length - 1)) && decide (maxU t (t.length - 1) ≤ 1000)
/-- A driver's routes that read takes, over m streets. -/
def routeOk (m : Nat) (l : List Int) : Bool := decide (1 ≤ l.length) && decide (l.length ≤ 5) && decide (1 ≤ minU l (l.length - 1)) && decide (maxU l (l.length - 1) < shl .i64 1 (m : Int))
def readOk (R T : List (List Int)) : Bool := decide (1 ≤ R.length) && decide (R.length ≤ 5) && decide (1 ≤ T.length) && decide (T.length ≤ 8) && T.all (tollOk R.length) && R.all (routeOk T.length)
theorem all_rd (q : List Int → Bool) (l : List (List Int)) (h : ∀ j : Nat, j < l.length → q (rd_L12 l (j : Int)) = true) : l.all q = true := by
  rw [List.all_eq_true]
  intro x hx
  obtain ⟨j, hj, rfl⟩ := List.getElem_of_mem hx
  have := h j hj
  simpa [rd_L12, List.getD, List.getElem?_eq_getElem hj] using this
theorem not_all_rd (q : List Int → Bool) (l : List (List Int)) (j : Nat) (hj : j < l.length) (h : q (rd_L12 l (j : Int)) = false) : l.all q = false := by
  rw [List.all_eq_false]
  refine ⟨l[j], List.getElem_mem hj, ?_⟩
  simpa [rd_L12, List.getD, List.getElem?_eq_getElem hj] using h
theorem rd_mem (T : List (List Int)) (x : List Int) (hx : x ∈ T) : ∃ j : Nat, j < T.length ∧ rd_L12 T (j : Int) = x := by
  obtain ⟨j, hj, rfl⟩ := List.getElem_of_mem hx
  exact ⟨j, hj, by simp [rd_L12, List.getD, List.getElem?_eq_getElem hj]⟩
/-- What a walk of read knows of its world. -/
structure REnv (w W : World) (gb g q : Nat) (Ar : Option Addr) (cr : Nat) (At : Option Addr) (ct : Nat) (R T : List (List Int)) (j : Nat) (vp : Value) (vals : List (List Value)) : Prop where
  hB : Below w.heap.size w W
  bB : W.heap[gb]? = some (.cells #[.slice Ar R.length cr, .slice At T.length ct] 41 (0, 0))
  gB : W.heap[g]? = some (.cells #[.slice Ar R.length cr, vp, .nilFunc] 97 (0, 0))
  qB : W.heap[q]? = some (.cells #[.pointer (some ⟨g, 0, none⟩)] 82 (0, 0))
  hL : Kd.R (Kd.raw 1) 105 W w.heap.size (fun _ => True) vp vals
  len : vals.length = j
  hV : ∀ i : Nat, i < j → ∃ A c, vals[i]? = some [.iface 118 (.slice A (rd_L12 T (i : Int)).length c)] ∧ (rd_L12 T (i : Int)).length ≤ c ∧ (Kd.int .i64).C w A (rd_L12 T (i : Int)).length (rd_L12 T (i : Int))
  ok : ∀ i : Nat, i < j → tollOk R.length (rd_L12 T (i : Int)) = true
  gg : w.heap.size ≤ g
  nb : gb ≠ g
  nq : q ≠ g
theorem REnv.below {w W W2 : World} {gb g q cr ct j : Nat} {Ar At : Option Addr} {R T : List (List Int)} {vp : Value} {vals : List (List Value)} (h : REnv w W gb g q Ar cr At ct R T j vp vals) (hb : Below W.heap.size W W2) : REnv w W2 gb g q Ar cr At ct R T j vp vals :=
  ⟨below_step h.hB hb, blk_below h.bB hb, blk_below h.gB hb, blk_below h.qB hb, Kd.R_below h.hL hb, h.len, h.hV, h.ok, h.gg, h.nb, h.nq⟩
/-- A place more. -/
theorem REnv.more {w W W2 : World} {gb g q cr ct j : Nat} {Ar At A : Option Addr} {R T : List (List Int)} {vp v2 : Value} {vals : List (List Value)} {c : Nat} (h : REnv w W gb g q Ar cr At ct R T j vp vals) (hb : Below w.heap.size w W2) (hg : W.grownBy W2 vp.ownBlock)
    (hL : Kd.R (Kd.raw 1) 105 W2 w.heap.size (fun _ => True) v2 (vals ++ [[.iface 118 (.slice A (rd_L12 T (j : Int)).length c)]])) (hc : (rd_L12 T (j : Int)).length ≤ c) (hC : (Kd.int .i64).C w A (rd_L12 T (j : Int)).length (rd_L12 T (j : Int))) (ho : tollOk R.length (rd_L12 T (j : Int)) = true) :
    W2.heap[g]? = some (.cells #[.slice Ar R.length cr, vp, .nilFunc] 97 (0, 0)) ∧ REnv w (W2.setCell ⟨g, 1, none⟩ v2) gb g q Ar cr At ct R T (j + 1) v2 (vals ++ [[.iface 118 (.slice A (rd_L12 T (j : Int)).length c)]]) := by
  have hgB := blk_grown h.gB hg (Kd.R_ne h.hL h.gB (by decide))
  refine ⟨hgB, below_set hb h.gg, ?_, ?_, ?_, ?_, by rw [List.length_append, h.len]; rfl, ?_, ?_, h.gg, h.nb, h.nq⟩
  · exact blk_far (blk_grown h.bB hg (Kd.R_ne h.hL h.bB (by decide))) h.nb _
  · exact blk_put (cs := #[.slice Ar R.length cr, vp, .nilFunc]) hgB 1 v2 rfl
  · exact blk_far (blk_grown h.qB hg (Kd.R_ne h.hL h.qB (by decide))) h.nq _
  · exact Kd.R_mono (Kd.R_far (p := ⟨g, 1, none⟩) (Kd.R_types hL hgB (by decide)) (fun _ hk => hk.2) v2) (fun _ _ => trivial)
  · intro i hi
    rcases Nat.lt_or_ge i j with hij | hij
    · obtain ⟨A', c', e1, e2, e3⟩ := h.hV i hij
      exact ⟨A', c', by rw [List.getElem?_append_left (by rw [h.len]; exact hij)]; exact e1, e2, e3⟩
    · have : i = j := by omega
      subst this
      exact ⟨A, c, by rw [List.getElem?_append_right (by rw [h.len]; exact Nat.le_refl _), h.len, Nat.sub_self]; rfl, hc, hC⟩
  · intro i hi
    rcases Nat.lt_or_ge i j with hij | hij
    · exact h.ok i hij
    · have : i = j := by omega
      subst this
      exact ho
/-- The closure is laid in: the game stands. -/
theorem REnv.game {w W : World} {gb g q cr ct : Nat} {Ar At : Option Addr} {R T : List (List Int)} {vp : Value} {vals : List (List Value)} (h : REnv w W gb g q Ar cr At ct R T T.length vp vals) (hrR : Kd.C (Kd.slice 3 (Kd.int .i64)) w Ar R.length R) (hcR : R.length ≤ cr) (hn : R.length ≤ 5) :
    Gm (W.setCell ⟨g, 2, none⟩ (.func (.func 90) #[] #[.pointer (some ⟨q, 0, none⟩)])) g R T ∧ Below w.heap.size w (W.setCell ⟨g, 2, none⟩ (.func (.func 90) #[] #[.pointer (some ⟨q, 0, none⟩)])) := by
  obtain ⟨Ap, cp, e, hcp, hC⟩ := Kd.R_reads h.hL
  rw [h.len] at e hcp hC
  subst e
  have hB2 := (show Below w.heap.size w (W.setCell ⟨g, 2, none⟩ (.func (.func 90) #[] #[.pointer (some ⟨q, 0, none⟩)])) from below_set h.hB h.gg)
  have hC2 : Kd.C (Kd.raw 1) (W.setCell ⟨g, 2, none⟩ (.func (.func 90) #[] #[.pointer (some ⟨q, 0, none⟩)])) Ap T.length vals := by
    have h2 := Kd.R_far (p := ⟨g, 2, none⟩) (Kd.R_types h.hL h.gB (by decide)) (fun _ hk => hk.2) (.func (.func 90) #[] #[.pointer (some ⟨q, 0, none⟩)])
    obtain ⟨A', c', e', _, hC'⟩ := Kd.R_reads h2
    injection e' with e1 e2 e3
    rw [e1]
    rwa [h.len] at hC'
  refine ⟨⟨Ar, cr, Ap, cp, q, blk_put (cs := #[.slice Ar R.length cr, .slice Ap T.length cp, .nilFunc]) h.gB 2 _ rfl, hcR, Kd.C_below hrR hB2, hcp, ?_, ?_, blk_far h.qB h.nq _⟩, hB2⟩
  · refine ⟨rfl, hC2.2.1, fun hpos => ?_⟩
    obtain ⟨ad, ea, hc⟩ := hC2.2.2 hpos
    refine ⟨ad, ea, fun j x hj => ?_⟩
    have hjl : j < T.length := (List.getElem?_eq_some_iff.1 hj).1
    obtain ⟨A, c, e1, e2, e3⟩ := h.hV j hjl
    obtain ⟨cs, hs, hr, hcell⟩ := hc j _ e1
    obtain ⟨rfl, _⟩ := hr
    have hx : rd_L12 T (j : Int) = x := by simp [rd_L12, List.getD, hj]
    rw [hx] at e2 e3 hcell hs
    exact ⟨_, hs, ⟨A, c, rfl, e2, Kd.C_below e3 hB2⟩, hcell⟩
  · intro x hx
    obtain ⟨j, hj, rfl⟩ := rd_mem T x hx
    have := h.ok j hj
    unfold tollOk at this
    simp only [Bool.and_eq_true, decide_eq_true_eq] at this
    omega
theorem run_store_func {P : Program} {w : World} {a : Addr} {m : Mode} (f : Fn) (x y : Array Value) : (store a (.func f x y) m).run P w = stored P w a (.func f x y) m := run_store P w a _ m rfl
attribute [local go_sem] run_store_func
theorem info105 : (Try.prog.info? 105).map (fun i => (i.zero, i.size, i.bytes)) = some (some .nilIface, 1, 16) := by kernel_rfl
def read.T10 : Bool × List (List Nat × List Nat) := (true, [([], []), ([], []), ([1], [1]), ([2], [2]), ([3], [3]), ([], []), ([5], [5]), ([6], [6]), ([4, 7], [4, 7]), ([0, 0, 1, 2, 3, 4, 5, 6, 7, 8], [0]), ([9, 0, 1, 2, 3, 4, 5, 6, 7, 8], [9]), ([10, 8, 8, 0, 1, 2, 3, 4, 5, 6, 7, 8], [8, 10])])
def read.B10 : List Nat := [0, 0, 2, 6, 14, 0, 32, 96, 254, 1, 513, 2047]
theorem read.tab10 : rtab .any (opsOf Try.f58 10) = read.T10 := by kernel_rfl
theorem read.bits10 : waitsOk read.T10.2 read.B10 = true := by kernel_rfl
def read.T15 : Bool × List (List Nat × List Nat) := (true, [([], []), ([0], [0]), ([1], [1]), ([2], [2]), ([3], [3]), ([4, 3], [3, 4]), ([5, 3], [3, 5]), ([3, 6], [3, 6]), ([7, 3], [7]), ([8], [8]), ([9, 8, 8], [8, 9]), ([10, 8], [8, 10]), ([8, 11], [8, 11]), ([12, 10], [12]), ([13], [13]), ([14, 13, 13], [13, 14]), ([13], [13]), ([16, 13], [13, 16]), ([17, 13], [13, 17]), ([18, 13], [13, 18]), ([15, 19, 13], [13, 15, 19]), ([13, 20], [13, 20])])
def read.B15 : List Nat := [0, 1, 3, 7, 15, 31, 63, 127, 255, 511, 1023, 2047, 4095, 8191, 16383, 32767, 16383, 81919, 212991, 475135, 1048575, 2097151]
theorem read.tab15 : rtab .any (opsOf Try.f58 15) = read.T15 := by kernel_rfl
theorem read.bits15 : waitsOk read.T15.2 read.B15 = true := by kernel_rfl
set_option maxHeartbeats 8000000 in
set_option maxRecDepth 100000 in
theorem read_calls (Ar : Option Addr) (cr : Nat) (R : List (List Int)) (At : Option Addr) (ct : Nat) (T : List (List Int)) (w : World) (hrR : Kd.C (Kd.slice 3 (Kd.int .i64)) w Ar R.length R) (hcR : R.length ≤ cr) (hrT : Kd.C (Kd.slice 3 (Kd.int .i64)) w At T.length T) (hcT : T.length ≤ ct) :
  Calls Try.prog 58 #[.agg #[.slice Ar R.length cr, .slice At T.length ct]] w fun e w' => (readOk R T = true ∧ ∃ g, e = .returned (.tuple #[.pointer (some ⟨g, 0, none⟩), .bool true]) ∧ w.heap.size ≤ g ∧ Gm w' g R T ∧ Below w.heap.size w w') ∨
   (readOk R T = false ∧ e = .returned (.tuple #[.pointer none, .bool false]) ∧ Below w.heap.size w w') := by
 have hu41 := Try.underlying41
 have hu97 := Try.underlying97
 have HRR := Aside0.mk hrR
 have HCR := Aside0.mk hcR
 have HRT := Aside0.mk hrT
 have HCT := Aside0.mk hcT
 clear hrR hcR hrT hcT
 have HB := Aside0.mk (Below.refl w.heap.size w)
 have hmf : ∀ (fn : Fn) (first cap : Array Value) (w : World), (Instr.makeFunc fn first cap).run Try.prog w = .ok (.func fn first cap) w := fun _ _ _ _ => rfl
 go_enter Try.func58, Try.ntmps58
 go_upto_region 2 with (first | ((with_reducible refine gate_dst (N := 1) rfl ?_); refine box_event ?hg (N := 1) ?hd (cs := #[.slice Ar R.length cr, .slice At T.length ct]) (t := 41) ?hr ?_; (case hd => rfl); (case hg => rfl); (case hr => first | (go_simp; done) | (go_simp; rfl)); intro gb hg w1 hbox hb; have BB := Aside0.mk hbox; have GB := Aside0.mk (show w.heap.size ≤ gb by rw [hg]; exact Nat.le_refl _); clear HB; have HB := Aside0.mk hb; clear hg hbox hb; have hb_0 : w1.cell? ⟨gb, 0, none⟩ = some (.slice Ar R.length cr) := (blk_cell BB.out 0).trans rfl; have hb_1 : w1.cell? ⟨gb, 1, none⟩ = some (.slice At T.length ct) := (blk_cell BB.out 1).trans rfl))
 by_cases c1 : R.length < 1
 case pos =>
  have c1b : decide ((R.length : Int) < 1) = true := decide_eq_true (by omega)
  have c1b2 : decide (R.length < 1) = true := decide_eq_true (by omega)
  have c1x0 : decide (R.length = 0) = true := decide_eq_true (by omega)
  have hR : readOk R T = false := by unfold readOk; simp only [Bool.and_eq_false_iff, decide_eq_false_iff_not]; exact .inl (.inl (.inl (.inl (.inl (by omega)))))
  have HRX := Aside0.mk hR
  clear hR
  clear c1
  go_wp2
  go_ret2
  exact .inr ⟨HRX.out, by first | rfl | (simp; done), by repeat (first | (with_reducible first | exact HB.out | apply below_alloc | apply pw_below_drewN | apply below_drew1) | exact HB.out)⟩
 have c1b : decide ((R.length : Int) < 1) = false := decide_eq_false (by omega)
 have c1b2 : decide (R.length < 1) = false := decide_eq_false (by omega)
 have c1x0 : decide (R.length = 0) = false := decide_eq_false (by omega)
 by_cases c2 : 5 < R.length
 case pos =>
  have c2b : decide (5 < (R.length : Int)) = true := decide_eq_true (by omega)
  have c2b2 : decide (5 < R.length) = true := decide_eq_true (by omega)
  have hR : readOk R T = false := by unfold readOk; simp only [Bool.and_eq_false_iff, decide_eq_false_iff_not]; exact .inl (.inl (.inl (.inl (.inr (by omega)))))
  have HRX := Aside0.mk hR
  clear hR
  clear c2
  go_wp2
  go_ret2
  exact .inr ⟨HRX.out, by first | rfl | (simp; done), by repeat (first | (with_reducible first | exact HB.out | apply below_alloc | apply pw_below_drewN | apply below_drew1) | exact HB.out)⟩
 have c2b : decide (5 < (R.length : Int)) = false := decide_eq_false (by omega)
 have c2b2 : decide (5 < R.length) = false := decide_eq_false (by omega)
 by_cases c3 : T.length < 1
 case pos =>
  have c3b : decide ((T.length : Int) < 1) = true := decide_eq_true (by omega)
  have c3b2 : decide (T.length < 1) = true := decide_eq_true (by omega)
  have c3x0 : decide (T.length = 0) = true := decide_eq_true (by omega)
  have hR : readOk R T = false := by unfold readOk; simp only [Bool.and_eq_false_iff, decide_eq_false_iff_not]; exact .inl (.inl (.inl (.inr (by omega))))
  have HRX := Aside0.mk hR
  clear hR
  clear c3
  go_wp2
  go_ret2
  exact .inr ⟨HRX.out, by first | rfl | (simp; done), by repeat (first | (with_reducible first | exact HB.out | apply below_alloc | apply pw_below_drewN | apply below_drew1) | exact HB.out)⟩
 have c3b : decide ((T.length : Int) < 1) = false := decide_eq_false (by omega)
 have c3b2 : decide (T.length < 1) = false := decide_eq_false (by omega)
 have c3x0 : decide (T.length = 0) = false := decide_eq_false (by omega)
 by_cases c4 : 8 < T.length
 case pos =>
  have c4b : decide (8 < (T.length : Int)) = true := decide_eq_true (by omega)
  have c4b2 : decide (8 < T.length) = true := decide_eq_true (by omega)
  have hR : readOk R T = false := by unfold readOk; simp only [Bool.and_eq_false_iff, decide_eq_false_iff_not]; exact .inl (.inl (.inr (by omega)))
  have HRX := Aside0.mk hR
  clear hR
  clear c4
  go_wp2
  go_ret2
  exact .inr ⟨HRX.out, by first | rfl | (simp; done), by repeat (first | (with_reducible first | exact HB.out | apply below_alloc | apply pw_below_drewN | apply below_drew1) | exact HB.out)⟩
 have c4b : decide (8 < (T.length : Int)) = false := decide_eq_false (by omega)
 have c4b2 : decide (8 < T.length) = false := decide_eq_false (by omega)
 have HN := Aside0.mk (show 1 ≤ R.length ∧ R.length ≤ 5 ∧ 1 ≤ T.length ∧ T.length ≤ 8 by omega)
 have hR : readOk R T = (T.all (tollOk R.length) && R.all (routeOk T.length)) := by unfold readOk; rw [decide_eq_true (show 1 ≤ R.length by omega), decide_eq_true (show R.length ≤ 5 by omega), decide_eq_true (show 1 ≤ T.length by omega), decide_eq_true (show T.length ≤ 8 by omega)]; simp only [Bool.true_and]
 have HRB := Aside0.mk hR
 clear hR c1 c2 c3 c4
 go_upto_region 5 with (first | ((with_reducible refine gate_dst (N := 34) rfl ?_); refine box_event ?hg (N := 34) ?hd (cs := #[.slice Ar R.length cr, .slice none 0 0, .nilFunc]) (t := 97) ?hr ?_; (case hd => rfl); (case hg => rfl); (case hr => first | (go_simp; done) | (go_simp; rfl)); intro g hg w2 hbox hb; have n0_ := Aside0.mk (blk_below (by (with_reducible repeat (first | refine blk_drewN ?_ _ | refine blk_drew ?_ | refine blk_alloc ?_ _)); exact BB.out) hb); have n1_ := Aside0.mk (below_step (by repeat (first | (with_reducible first | exact HB.out | apply below_alloc | apply pw_below_drewN | apply below_drew1) | exact HB.out)) hb); have GBX := Aside0.mk hbox; have GG := Aside0.mk ((by rw [hg]; exact (below_size (by repeat (first | (with_reducible first | exact HB.out | apply below_alloc | apply pw_below_drewN | apply below_drew1) | exact HB.out)))) : w.heap.size ≤ g); have NBG := Aside0.mk ((by have := blk_lt BB.out; rw [hg]; exact Nat.ne_of_lt this) : gb ≠ g); clear HB BB hb_0 hb_1; have BB := n0_; have HB := n1_; clear n0_ n1_; clear hg hbox hb))
 obtain ⟨q, hq⟩ : ∃ q, w2.heap.size = q := ⟨_, rfl⟩
 rw [hq]
 obtain ⟨wq, hwq⟩ : ∃ wq, w2.alloc (.cells #[.pointer (some ⟨g, 0, none⟩)] 82) = wq := ⟨_, rfl⟩
 rw [hwq]
 have n0_ : Below w2.heap.size w2 wq := hwq ▸ below_alloc (Below.refl _ _) _
 have FE := Aside0.mk (show REnv w wq gb g q Ar cr At ct R T 0 (.slice none 0 0) [] from ⟨below_step HB.out n0_, blk_below BB.out n0_, blk_below GBX.out n0_, hq ▸ hwq ▸ heap_alloc_new w2 _, Kd.R_nil _ _ _ _ _, rfl, fun i hi => absurd hi (Nat.not_lt_zero _), fun i hi => absurd hi (Nat.not_lt_zero _), GG.out, NBG.out, by have := blk_lt GBX.out; omega⟩)
 clear n0_ hwq hq HB BB GBX GG NBG
 have hb_0 : wq.cell? ⟨gb, 0, none⟩ = some (.slice Ar R.length cr) := (blk_cell FE.out.bB 0).trans rfl
 have hb_1 : wq.cell? ⟨gb, 1, none⟩ = some (.slice At T.length ct) := (blk_cell FE.out.bB 1).trans rfl
 have hq_0 : wq.cell? ⟨q, 0, none⟩ = some (.pointer (some ⟨g, 0, none⟩)) := (blk_cell FE.out.qB 0).trans rfl
 go_wp2
 go_loopg [38] T.length (fun kq v38 w' => ∃ (j : Nat) (vp : Value) (vals : List (List Value)), v38 = .int .i64 (j : Int) ∧ Aside0 (j + kq = T.length) ∧ Aside0 (REnv w w' gb g q Ar cr At ct R T j vp vals))
 case atStart => exact ⟨0, _, _, rfl, ⟨by simp⟩, FE⟩
 case round =>
  clear FE hb_0 hb_1 hq_0
  obtain ⟨j, vp, vals, rfl, HJ, FE⟩ := hrel
  have hb_0 : wr.cell? ⟨gb, 0, none⟩ = some (.slice Ar R.length cr) := (blk_cell FE.out.bB 0).trans rfl
  have hb_1 : wr.cell? ⟨gb, 1, none⟩ = some (.slice At T.length ct) := (blk_cell FE.out.bB 1).trans rfl
  have hq_0 : wr.cell? ⟨q, 0, none⟩ = some (.pointer (some ⟨g, 0, none⟩)) := (blk_cell FE.out.qB 0).trans rfl
  cases gk with
  | zero =>
   obtain rfl : j = T.length := by have := HJ.out; omega
   have c5b : decide ((T.length : Int) < (T.length : Int)) = false := decide_eq_false (by omega)
   have c5b2 : decide (T.length < T.length) = false := decide_eq_false (by omega)
   have HTA := Aside0.mk (all_rd (tollOk R.length) T FE.out.ok)
   clear HJ
   go_wp2
   go_loopg [71] R.length (fun kq v71 w' => ∃ (i : Nat), v71 = .int .i64 (i : Int) ∧ Aside0 (i + kq = R.length) ∧ Aside0 (∀ a : Nat, a < i → routeOk T.length (rd_L12 R (a : Int)) = true) ∧ Aside0 (REnv w w' gb g q Ar cr At ct R T T.length vp vals))
   case atStart => exact ⟨0, rfl, ⟨by simp⟩, ⟨fun a ha => absurd ha (Nat.not_lt_zero _)⟩, FE⟩
   case round =>
    clear FE hb_0 hb_1 hq_0
    obtain ⟨i, rfl, HI, HA, FE⟩ := hrel
    cases gk with
    | zero =>
     have hi := HI.out
     have c6b : decide ((i : Int) < (R.length : Int)) = false := decide_eq_false (by omega)
     have c6b2 : decide (i < R.length) = false := decide_eq_false (by omega)
     have HRX := Aside0.mk (show readOk R T = true by rw [HRB.out, HTA.out, Bool.true_and]; exact all_rd _ R (fun a ha => HA.out a (by omega)))
     have hq_0 : wr.cell? ⟨q, 0, none⟩ = some (.pointer (some ⟨g, 0, none⟩)) := (blk_cell FE.out.qB 0).trans rfl
     have hqg := FE.out.nq
     have hgq : g ≠ q := fun e => FE.out.nq e.symm
     have hp_2 : wr.cell? ⟨g, 2, none⟩ = some .nilFunc := (blk_cell FE.out.gB 2).trans rfl
     have hf_2 := blk_frozen FE.out.gB 2
     clear hi
     have HGM := Aside0.mk (FE.out.game HRR.out HCR.out HN.out.2.1)
     go_wp2
     go_ret2
     exact .inl ⟨HRX.out, g, by first | rfl | (simp; done), FE.out.gg, HGM.out.1, HGM.out.2⟩
    | succ k1 =>
     have hi0 : (0 : Int) ≤ (i : Int) := Int.natCast_nonneg _
     have hi1 : (i : Int) < (R.length : Int) := by have := HI.out; omega
     have c6b : decide ((i : Int) < (R.length : Int)) = true := decide_eq_true hi1
     have c6b2 : decide (i < R.length) = true := decide_eq_true (by omega)
     have hi2 : (i < R.length) = True := eq_true (by omega)
     have HIL := Aside0.mk (show i < R.length by have := HI.out; omega)
     obtain ⟨ad, A0, c0, e, hx, hc0, hC⟩ := at_L12 HRR.out (i : Int) hi0 hi1
     cases e
     simp only [Int.toNat_natCast] at hx
     replace hx := (FE.out.hB.cell (World.block_lt_of_cell? w _ hx)).trans hx
     obtain ⟨l, hl⟩ : ∃ l, rd_L12 R (i : Int) = l := ⟨_, rfl⟩
     have HLL := Aside0.mk hl
     rw [hl] at hx hc0 hC
     clear hl
     have HC0 := Aside0.mk hc0
     have HC := Aside0.mk hC
     clear hc0 hC
     replace hi0 := eq_true hi0
     replace hi1 := eq_true hi1
     obtain ⟨mi, hmi⟩ : ∃ mi, minU l (l.length - 1) = mi := ⟨_, rfl⟩
     have HMI := Aside0.mk hmi
     clear hmi
     obtain ⟨ma, hma⟩ : ∃ ma, maxU l (l.length - 1) = ma := ⟨_, rfl⟩
     have HMA := Aside0.mk hma
     clear hma
     obtain ⟨ji, hji⟩ : ∃ j_ : Int, shl .i64 1 (T.length : Int) = j_ := ⟨_, rfl⟩
     have HJI := Aside0.mk hji
     have HRI := Aside0.mk (show routeOk T.length (rd_L12 R (i : Int)) = (decide (1 ≤ l.length) && decide (l.length ≤ 5) && decide (1 ≤ mi) && decide (ma < ji)) by rw [HLL.out]; unfold routeOk; rw [HMI.out, HMA.out, hji])
     have hji_ := hji
     unfold shl at hji_
     have hji24z : (T.length : Int) ≤ 64 → (IntKind.i64.wrap (1 * 2 ^ (T.length : Int).toNat)) = ji := shl_small hji
     have hji24_ : (IntKind.i64.wrap (1 * 2 ^ min (T.length : Int).toNat 64)) = ji := hji
     have hji24u : (IntKind.i64.wrap (2 ^ min (T.length : Int).toNat 64)) = ji := by have h_ := hji24_; rw [Int.one_mul] at h_; exact h_
     have hji24v : (T.length : Int) ≤ 64 → (IntKind.i64.wrap (2 ^ (T.length : Int).toNat)) = ji := fun hle_ => by have h_ := hji24z hle_; rw [Int.one_mul] at h_; exact h_
     have hji24y : (wrap64 (1 * 2 ^ min (T.length : Int).toNat 64)) = ji := (i64_w _).symm.trans hji24_
     have hji24x : (T.length : Int) ≤ 64 → (wrap64 (1 * 2 ^ (T.length : Int).toNat)) = ji := fun h_ => (i64_w _).symm.trans (hji24z h_)
     have hji25 : (IntKind.i64.wrap (1 * 2 ^ T.length)) = ji := by have h_ := hji24z (by have := HN.out; omega); rwa [Int.toNat_natCast] at h_
     have hji26 : (IntKind.i64.wrap (2 ^ T.length)) = ji := by have h_ := hji25; rwa [Int.one_mul] at h_
     have hji27 : (IntKind.i64.wrap (1 * 2 ^ min T.length 64)) = ji := by have h_ := hji24_; rwa [Int.toNat_natCast] at h_
     have hji28 : (IntKind.i64.wrap (2 ^ min T.length 64)) = ji := by have h_ := hji27; rwa [Int.one_mul] at h_
     have hji29 : wrap64 (1 * 2 ^ T.length) = ji := (i64_w _).symm.trans hji25
     have hji30 : wrap64 (2 ^ T.length) = ji := (i64_w _).symm.trans hji26
     have hT0 : ((0 : Int) ≤ (T.length : Int)) = True := eq_true (by omega)
     by_cases r1 : l.length < 1
     case pos =>
      have r1_0 : decide ((l.length : Int) < 1) = true := decide_eq_true (by omega)
      have r1_1 : decide (l.length < 1) = true := decide_eq_true (by omega)
      have r1_2 : decide (l.length = 0) = true := decide_eq_true (by omega)
      have HRX := Aside0.mk (show readOk R T = false by rw [HRB.out, not_all_rd _ R i HIL.out (by rw [HRI.out]; rw [decide_eq_false (show ¬ 1 ≤ l.length by omega)]; simp only [Bool.false_and]), Bool.and_false])
      clear r1 hji hji_
      go_upto_region 15 with (fail)
      have n0_ := Aside0.mk (FE.out.below (below_drew1 (Below.refl _ _)))
      clear FE
      have FE := n0_
      clear n0_ hx
      refine start_ (n := 22) (S := fun w' => w'.cell? ⟨gb, 1, none⟩ = some (.slice At T.length ct)) (ds := []) #[false, false, false, false, false, false, false, false, false, false, false, false, false, false, false, false, false, false, false, false, false, false] (by kernel_rfl) rfl rfl ((blk_cell FE.out.bB 1).trans rfl) (fun hHeld => ?_); refine with_tabW read.tab15 read.bits15 (fun HT_ HW_ => ?_)
      generalize World.drew _ = wd at FE hHeld ⊢
      refine pure_ (i := 0) (N := some 75) (v := ?_) (a' := ?_) #[true, false, false, false, false, false, false, false, false, false, false, false, false, false, false, false, false, false, false, false, false, false] rfl rfl (any_of HT_.out (by kernel_rfl)) (fun _ _ _ h => h) (Or.inl ⟨by rfl, ?_⟩) ?_ ?_
      rotate_left
      ·intro w'
       go_simp
       first | with_reducible rfl | rfl
      rotate_left
      ·simp only [Act.put, List.setIfInBounds_toArray, List.set_cons_zero, List.set_cons_succ, i64_w, i32_w]
       rfl
      refine pure_ (i := 1) (N := some 76) (v := ?_) (a' := ?_) #[true, true, false, false, false, false, false, false, false, false, false, false, false, false, false, false, false, false, false, false, false, false] rfl rfl (any_of HT_.out (by kernel_rfl)) (fun _ _ _ h => h) (Or.inl ⟨by rfl, ?_⟩) ?_ ?_
      rotate_left
      ·intro w'
       go_simp
       first | with_reducible rfl | rfl
      rotate_left
      ·simp only [Act.put, List.setIfInBounds_toArray, List.set_cons_zero, List.set_cons_succ, i64_w, i32_w]
       rfl
      refine pure_ (i := 2) (N := some 77) (v := ?_) (a' := ?_) #[true, true, true, false, false, false, false, false, false, false, false, false, false, false, false, false, false, false, false, false, false, false] rfl rfl (any_of HT_.out (by kernel_rfl)) (fun _ _ _ h => h) (Or.inl ⟨by rfl, ?_⟩) ?_ ?_
      rotate_left
      ·intro w'
       go_simp
       first | with_reducible rfl | rfl
      rotate_left
      ·simp only [Act.put, List.setIfInBounds_toArray, List.set_cons_zero, List.set_cons_succ, i64_w, i32_w]
       rfl
      refine pure_ (i := 3) (N := some 78) (v := ?_) (a' := ?_) #[true, true, true, true, false, false, false, false, false, false, false, false, false, false, false, false, false, false, false, false, false, false] rfl rfl (any_of HT_.out (by kernel_rfl)) (fun _ _ _ h => h) (Or.inl ⟨by rfl, ?_⟩) ?_ ?_
      rotate_left
      ·intro w'
       go_simp
       first | with_reducible rfl | rfl
      rotate_left
      ·simp only [Act.put, List.setIfInBounds_toArray, List.set_cons_zero, List.set_cons_succ, i64_w, i32_w]
       rfl
      refine pure_ (i := 4) (N := some 79) (v := undef) (a' := ?_) #[true, true, true, true, true, false, false, false, false, false, false, false, false, false, false, false, false, false, false, false, false, false] rfl rfl (any_of HT_.out (by kernel_rfl)) (fun _ _ _ h => h) (Or.inr ⟨by rfl, rfl⟩) ?_ ?_
      rotate_left
      ·simp only [Act.put, List.setIfInBounds_toArray, List.set_cons_zero, List.set_cons_succ, i64_w, i32_w]
       rfl
      refine pure_ (i := 5) (N := some 80) (v := undef) (a' := ?_) #[true, true, true, true, true, true, false, false, false, false, false, false, false, false, false, false, false, false, false, false, false, false] rfl rfl (any_of HT_.out (by kernel_rfl)) (fun _ _ _ h => h) (Or.inr ⟨by rfl, rfl⟩) ?_ ?_
      rotate_left
      ·simp only [Act.put, List.setIfInBounds_toArray, List.set_cons_zero, List.set_cons_succ, i64_w, i32_w]
       rfl
      refine pure_ (i := 6) (N := some 81) (v := undef) (a' := ?_) #[true, true, true, true, true, true, true, false, false, false, false, false, false, false, false, false, false, false, false, false, false, false] rfl rfl (any_of HT_.out (by kernel_rfl)) (fun _ _ _ h => h) (Or.inr ⟨by rfl, rfl⟩) ?_ ?_
      rotate_left
      ·simp only [Act.put, List.setIfInBounds_toArray, List.set_cons_zero, List.set_cons_succ, i64_w, i32_w]
       rfl
      refine pure_ (i := 7) (N := some 82) (v := ?_) (a' := ?_) #[true, true, true, true, true, true, true, true, false, false, false, false, false, false, false, false, false, false, false, false, false, false] rfl rfl (any_of HT_.out (by kernel_rfl)) (fun _ _ _ h => h) (Or.inl ⟨by rfl, ?_⟩) ?_ ?_
      rotate_left
      ·intro w'
       go_simp
       first | with_reducible rfl | rfl
      rotate_left
      ·simp only [Act.put, List.setIfInBounds_toArray, List.set_cons_zero, List.set_cons_succ, i64_w, i32_w]
       rfl
      refine pure_ (i := 8) (N := some 83) (v := ?_) (a' := ?_) #[true, true, true, true, true, true, true, true, true, false, false, false, false, false, false, false, false, false, false, false, false, false] rfl rfl (any_of HT_.out (by kernel_rfl)) (fun _ _ _ h => h) (Or.inl ⟨by rfl, ?_⟩) ?_ ?_
      rotate_left
      ·intro w'
       go_simp
       first | with_reducible rfl | rfl
      rotate_left
      ·simp only [Act.put, List.setIfInBounds_toArray, List.set_cons_zero, List.set_cons_succ, i64_w, i32_w]
       rfl
      refine pure_ (i := 9) (N := some 84) (v := undef) (a' := ?_) #[true, true, true, true, true, true, true, true, true, true, false, false, false, false, false, false, false, false, false, false, false, false] rfl rfl (any_of HT_.out (by kernel_rfl)) (fun _ _ _ h => h) (Or.inr ⟨by rfl, rfl⟩) ?_ ?_
      rotate_left
      ·simp only [Act.put, List.setIfInBounds_toArray, List.set_cons_zero, List.set_cons_succ, i64_w, i32_w]
       rfl
      refine pure_ (i := 10) (N := some 85) (v := undef) (a' := ?_) #[true, true, true, true, true, true, true, true, true, true, true, false, false, false, false, false, false, false, false, false, false, false] rfl rfl (any_of HT_.out (by kernel_rfl)) (fun _ _ _ h => h) (Or.inr ⟨by rfl, rfl⟩) ?_ ?_
      rotate_left
      ·simp only [Act.put, List.setIfInBounds_toArray, List.set_cons_zero, List.set_cons_succ, i64_w, i32_w]
       rfl
      refine pure_ (i := 11) (N := some 86) (v := undef) (a' := ?_) #[true, true, true, true, true, true, true, true, true, true, true, true, false, false, false, false, false, false, false, false, false, false] rfl rfl (any_of HT_.out (by kernel_rfl)) (fun _ _ _ h => h) (Or.inr ⟨by rfl, rfl⟩) ?_ ?_
      rotate_left
      ·simp only [Act.put, List.setIfInBounds_toArray, List.set_cons_zero, List.set_cons_succ, i64_w, i32_w]
       rfl
      refine pure_ (i := 12) (N := some 87) (v := ?_) (a' := ?_) #[true, true, true, true, true, true, true, true, true, true, true, true, true, false, false, false, false, false, false, false, false, false] rfl rfl (any_of HT_.out (by kernel_rfl)) (fun _ _ _ h => h) (Or.inl ⟨by rfl, ?_⟩) ?_ ?_
      rotate_left
      ·intro w'
       go_simp
       first | with_reducible rfl | rfl
      rotate_left
      ·simp only [Act.put, List.setIfInBounds_toArray, List.set_cons_zero, List.set_cons_succ, i64_w, i32_w]
       rfl
      refine pure_ (i := 13) (N := some 88) (v := ?_) (a' := ?_) #[true, true, true, true, true, true, true, true, true, true, true, true, true, true, false, false, false, false, false, false, false, false] rfl rfl (any_of HT_.out (by kernel_rfl)) (fun _ _ _ h => h) (Or.inl ⟨by rfl, ?_⟩) ?_ ?_
      rotate_left
      ·intro w'
       go_simp
       first | with_reducible rfl | rfl
      rotate_left
      ·simp only [Act.put, List.setIfInBounds_toArray, List.set_cons_zero, List.set_cons_succ, i64_w, i32_w]
       rfl
      refine pure_ (i := 14) (N := some 89) (v := undef) (a' := ?_) #[true, true, true, true, true, true, true, true, true, true, true, true, true, true, true, false, false, false, false, false, false, false] rfl rfl (any_of HT_.out (by kernel_rfl)) (fun _ _ _ h => h) (Or.inr ⟨by rfl, rfl⟩) ?_ ?_
      rotate_left
      ·simp only [Act.put, List.setIfInBounds_toArray, List.set_cons_zero, List.set_cons_succ, i64_w, i32_w]
       rfl
      refine pure_ (i := 15) (N := some 90) (v := undef) (a' := ?_) #[true, true, true, true, true, true, true, true, true, true, true, true, true, true, true, true, false, false, false, false, false, false] rfl rfl (any_of HT_.out (by kernel_rfl)) (fun _ _ _ h => h) (Or.inr ⟨by rfl, rfl⟩) ?_ ?_
      rotate_left
      ·simp only [Act.put, List.setIfInBounds_toArray, List.set_cons_zero, List.set_cons_succ, i64_w, i32_w]
       rfl
      refine pure_ (i := 16) (N := some 91) (v := undef) (a' := ?_) #[true, true, true, true, true, true, true, true, true, true, true, true, true, true, true, true, true, false, false, false, false, false] rfl rfl (any_of HT_.out (by kernel_rfl)) (fun _ _ _ h => h) (Or.inr ⟨by rfl, rfl⟩) ?_ ?_
      rotate_left
      ·simp only [Act.put, List.setIfInBounds_toArray, List.set_cons_zero, List.set_cons_succ, i64_w, i32_w]
       rfl
      refine pure_ (i := 17) (N := some 92) (v := undef) (a' := ?_) #[true, true, true, true, true, true, true, true, true, true, true, true, true, true, true, true, true, true, false, false, false, false] rfl rfl (any_of HT_.out (by kernel_rfl)) (fun _ _ _ h => h) (Or.inr ⟨by rfl, rfl⟩) ?_ ?_
      rotate_left
      ·simp only [Act.put, List.setIfInBounds_toArray, List.set_cons_zero, List.set_cons_succ, i64_w, i32_w]
       rfl
      refine pure_ (i := 18) (N := some 93) (v := undef) (a' := ?_) #[true, true, true, true, true, true, true, true, true, true, true, true, true, true, true, true, true, true, true, false, false, false] rfl rfl (any_of HT_.out (by kernel_rfl)) (fun _ _ _ h => h) (Or.inr ⟨by rfl, rfl⟩) ?_ ?_
      rotate_left
      ·simp only [Act.put, List.setIfInBounds_toArray, List.set_cons_zero, List.set_cons_succ, i64_w, i32_w]
       rfl
      refine pure_ (i := 19) (N := some 94) (v := undef) (a' := ?_) #[true, true, true, true, true, true, true, true, true, true, true, true, true, true, true, true, true, true, true, true, false, false] rfl rfl (any_of HT_.out (by kernel_rfl)) (fun _ _ _ h => h) (Or.inr ⟨by rfl, rfl⟩) ?_ ?_
      rotate_left
      ·simp only [Act.put, List.setIfInBounds_toArray, List.set_cons_zero, List.set_cons_succ, i64_w, i32_w]
       rfl
      refine pure_ (i := 20) (N := some 95) (v := undef) (a' := ?_) #[true, true, true, true, true, true, true, true, true, true, true, true, true, true, true, true, true, true, true, true, true, false] rfl rfl (any_of HT_.out (by kernel_rfl)) (fun _ _ _ h => h) (Or.inr ⟨by rfl, rfl⟩) ?_ ?_
      rotate_left
      ·simp only [Act.put, List.setIfInBounds_toArray, List.set_cons_zero, List.set_cons_succ, i64_w, i32_w]
       rfl
      refine pure_ (i := 21) (N := some 96) (v := ?_) (a' := ?_) #[true, true, true, true, true, true, true, true, true, true, true, true, true, true, true, true, true, true, true, true, true, true] rfl rfl (any_of HT_.out (by kernel_rfl)) (fun _ _ _ h => h) (Or.inl ⟨by rfl, ?_⟩) ?_ ?_
      rotate_left
      ·intro w'
       go_simp
       first | with_reducible rfl | rfl
      rotate_left
      ·simp only [Act.put, List.setIfInBounds_toArray, List.set_cons_zero, List.set_cons_succ, i64_w, i32_w]
       rfl
      refine done_ (done_of HT_.out (by kernel_rfl)) ?_
      try go_wp2
      go_ret2
      exact .inr ⟨HRX.out, by first | rfl | (simp; done), FE.out.hB⟩
     have r1_0 : decide ((l.length : Int) < 1) = false := decide_eq_false (by omega)
     have r1_1 : decide (l.length < 1) = false := decide_eq_false (by omega)
     have r1_2 : decide (l.length = 0) = false := decide_eq_false (by omega)
     have HL1 := Aside0.mk (show 1 ≤ l.length by omega)
     by_cases r2 : 5 < l.length
     case pos =>
      have r2_0 : decide (5 < (l.length : Int)) = true := decide_eq_true (by omega)
      have r2_1 : decide (5 < l.length) = true := decide_eq_true (by omega)
      have HRX := Aside0.mk (show readOk R T = false by rw [HRB.out, not_all_rd _ R i HIL.out (by rw [HRI.out]; rw [decide_eq_false (show ¬ l.length ≤ 5 by omega)]; simp only [Bool.false_and, Bool.and_false]), Bool.and_false])
      clear r1 r2 hji hji_
      go_upto_region 15 with (fail)
      have n0_ := Aside0.mk (FE.out.below (below_drew1 (Below.refl _ _)))
      clear FE
      have FE := n0_
      clear n0_ hx
      refine start_ (n := 22) (S := fun w' => w'.cell? ⟨gb, 1, none⟩ = some (.slice At T.length ct)) (ds := []) #[false, false, false, false, false, false, false, false, false, false, false, false, false, false, false, false, false, false, false, false, false, false] (by kernel_rfl) rfl rfl ((blk_cell FE.out.bB 1).trans rfl) (fun hHeld => ?_); refine with_tabW read.tab15 read.bits15 (fun HT_ HW_ => ?_)
      generalize World.drew _ = wd at FE hHeld ⊢
      refine pure_ (i := 0) (N := some 75) (v := ?_) (a' := ?_) #[true, false, false, false, false, false, false, false, false, false, false, false, false, false, false, false, false, false, false, false, false, false] rfl rfl (any_of HT_.out (by kernel_rfl)) (fun _ _ _ h => h) (Or.inl ⟨by rfl, ?_⟩) ?_ ?_
      rotate_left
      ·intro w'
       go_simp
       first | with_reducible rfl | rfl
      rotate_left
      ·simp only [Act.put, List.setIfInBounds_toArray, List.set_cons_zero, List.set_cons_succ, i64_w, i32_w]
       rfl
      refine pure_ (i := 1) (N := some 76) (v := ?_) (a' := ?_) #[true, true, false, false, false, false, false, false, false, false, false, false, false, false, false, false, false, false, false, false, false, false] rfl rfl (any_of HT_.out (by kernel_rfl)) (fun _ _ _ h => h) (Or.inl ⟨by rfl, ?_⟩) ?_ ?_
      rotate_left
      ·intro w'
       go_simp
       first | with_reducible rfl | rfl
      rotate_left
      ·simp only [Act.put, List.setIfInBounds_toArray, List.set_cons_zero, List.set_cons_succ, i64_w, i32_w]
       rfl
      refine pure_ (i := 2) (N := some 77) (v := ?_) (a' := ?_) #[true, true, true, false, false, false, false, false, false, false, false, false, false, false, false, false, false, false, false, false, false, false] rfl rfl (any_of HT_.out (by kernel_rfl)) (fun _ _ _ h => h) (Or.inl ⟨by rfl, ?_⟩) ?_ ?_
      rotate_left
      ·intro w'
       go_simp
       first | with_reducible rfl | rfl
      rotate_left
      ·simp only [Act.put, List.setIfInBounds_toArray, List.set_cons_zero, List.set_cons_succ, i64_w, i32_w]
       rfl
      refine pure_ (i := 3) (N := some 78) (v := ?_) (a' := ?_) #[true, true, true, true, false, false, false, false, false, false, false, false, false, false, false, false, false, false, false, false, false, false] rfl rfl (any_of HT_.out (by kernel_rfl)) (fun _ _ _ h => h) (Or.inl ⟨by rfl, ?_⟩) ?_ ?_
      rotate_left
      ·intro w'
       go_simp
       first | with_reducible rfl | rfl
      rotate_left
      ·simp only [Act.put, List.setIfInBounds_toArray, List.set_cons_zero, List.set_cons_succ, i64_w, i32_w]
       rfl
      refine pure_ (i := 4) (N := some 79) (v := ?_) (a' := ?_) #[true, true, true, true, true, false, false, false, false, false, false, false, false, false, false, false, false, false, false, false, false, false] rfl rfl (any_of HT_.out (by kernel_rfl)) (fun _ _ _ h => h) (Or.inl ⟨by rfl, ?_⟩) ?_ ?_
      rotate_left
      ·intro w'
       go_simp
       first | with_reducible rfl | rfl
      rotate_left
      ·simp only [Act.put, List.setIfInBounds_toArray, List.set_cons_zero, List.set_cons_succ, i64_w, i32_w]
       rfl
      refine pure_ (i := 5) (N := some 80) (v := ?_) (a' := ?_) #[true, true, true, true, true, true, false, false, false, false, false, false, false, false, false, false, false, false, false, false, false, false] rfl rfl (any_of HT_.out (by kernel_rfl)) (fun _ _ _ h => h) (Or.inl ⟨by rfl, ?_⟩) ?_ ?_
      rotate_left
      ·intro w'
       go_simp
       first | with_reducible rfl | rfl
      rotate_left
      ·simp only [Act.put, List.setIfInBounds_toArray, List.set_cons_zero, List.set_cons_succ, i64_w, i32_w]
       rfl
      refine pure_ (i := 6) (N := some 81) (v := ?_) (a' := ?_) #[true, true, true, true, true, true, true, false, false, false, false, false, false, false, false, false, false, false, false, false, false, false] rfl rfl (any_of HT_.out (by kernel_rfl)) (fun _ _ _ h => h) (Or.inl ⟨by rfl, ?_⟩) ?_ ?_
      rotate_left
      ·intro w'
       go_simp
       first | with_reducible rfl | rfl
      rotate_left
      ·simp only [Act.put, List.setIfInBounds_toArray, List.set_cons_zero, List.set_cons_succ, i64_w, i32_w]
       rfl
      refine pure_ (i := 7) (N := some 82) (v := ?_) (a' := ?_) #[true, true, true, true, true, true, true, true, false, false, false, false, false, false, false, false, false, false, false, false, false, false] rfl rfl (any_of HT_.out (by kernel_rfl)) (fun _ _ _ h => h) (Or.inl ⟨by rfl, ?_⟩) ?_ ?_
      rotate_left
      ·intro w'
       go_simp
       first | with_reducible rfl | rfl
      rotate_left
      ·simp only [Act.put, List.setIfInBounds_toArray, List.set_cons_zero, List.set_cons_succ, i64_w, i32_w]
       rfl
      refine pure_ (i := 8) (N := some 83) (v := ?_) (a' := ?_) #[true, true, true, true, true, true, true, true, true, false, false, false, false, false, false, false, false, false, false, false, false, false] rfl rfl (any_of HT_.out (by kernel_rfl)) (fun _ _ _ h => h) (Or.inl ⟨by rfl, ?_⟩) ?_ ?_
      rotate_left
      ·intro w'
       go_simp
       first | with_reducible rfl | rfl
      rotate_left
      ·simp only [Act.put, List.setIfInBounds_toArray, List.set_cons_zero, List.set_cons_succ, i64_w, i32_w]
       rfl
      refine pure_ (i := 9) (N := some 84) (v := undef) (a' := ?_) #[true, true, true, true, true, true, true, true, true, true, false, false, false, false, false, false, false, false, false, false, false, false] rfl rfl (any_of HT_.out (by kernel_rfl)) (fun _ _ _ h => h) (Or.inr ⟨by rfl, rfl⟩) ?_ ?_
      rotate_left
      ·simp only [Act.put, List.setIfInBounds_toArray, List.set_cons_zero, List.set_cons_succ, i64_w, i32_w]
       rfl
      refine pure_ (i := 10) (N := some 85) (v := undef) (a' := ?_) #[true, true, true, true, true, true, true, true, true, true, true, false, false, false, false, false, false, false, false, false, false, false] rfl rfl (any_of HT_.out (by kernel_rfl)) (fun _ _ _ h => h) (Or.inr ⟨by rfl, rfl⟩) ?_ ?_
      rotate_left
      ·simp only [Act.put, List.setIfInBounds_toArray, List.set_cons_zero, List.set_cons_succ, i64_w, i32_w]
       rfl
      refine pure_ (i := 11) (N := some 86) (v := undef) (a' := ?_) #[true, true, true, true, true, true, true, true, true, true, true, true, false, false, false, false, false, false, false, false, false, false] rfl rfl (any_of HT_.out (by kernel_rfl)) (fun _ _ _ h => h) (Or.inr ⟨by rfl, rfl⟩) ?_ ?_
      rotate_left
      ·simp only [Act.put, List.setIfInBounds_toArray, List.set_cons_zero, List.set_cons_succ, i64_w, i32_w]
       rfl
      refine pure_ (i := 12) (N := some 87) (v := ?_) (a' := ?_) #[true, true, true, true, true, true, true, true, true, true, true, true, true, false, false, false, false, false, false, false, false, false] rfl rfl (any_of HT_.out (by kernel_rfl)) (fun _ _ _ h => h) (Or.inl ⟨by rfl, ?_⟩) ?_ ?_
      rotate_left
      ·intro w'
       go_simp
       first | with_reducible rfl | rfl
      rotate_left
      ·simp only [Act.put, List.setIfInBounds_toArray, List.set_cons_zero, List.set_cons_succ, i64_w, i32_w]
       rfl
      refine pure_ (i := 13) (N := some 88) (v := ?_) (a' := ?_) #[true, true, true, true, true, true, true, true, true, true, true, true, true, true, false, false, false, false, false, false, false, false] rfl rfl (any_of HT_.out (by kernel_rfl)) (fun _ _ _ h => h) (Or.inl ⟨by rfl, ?_⟩) ?_ ?_
      rotate_left
      ·intro w'
       go_simp
       first | with_reducible rfl | rfl
      rotate_left
      ·simp only [Act.put, List.setIfInBounds_toArray, List.set_cons_zero, List.set_cons_succ, i64_w, i32_w]
       rfl
      refine pure_ (i := 14) (N := some 89) (v := undef) (a' := ?_) #[true, true, true, true, true, true, true, true, true, true, true, true, true, true, true, false, false, false, false, false, false, false] rfl rfl (any_of HT_.out (by kernel_rfl)) (fun _ _ _ h => h) (Or.inr ⟨by rfl, rfl⟩) ?_ ?_
      rotate_left
      ·simp only [Act.put, List.setIfInBounds_toArray, List.set_cons_zero, List.set_cons_succ, i64_w, i32_w]
       rfl
      refine pure_ (i := 15) (N := some 90) (v := undef) (a' := ?_) #[true, true, true, true, true, true, true, true, true, true, true, true, true, true, true, true, false, false, false, false, false, false] rfl rfl (any_of HT_.out (by kernel_rfl)) (fun _ _ _ h => h) (Or.inr ⟨by rfl, rfl⟩) ?_ ?_
      rotate_left
      ·simp only [Act.put, List.setIfInBounds_toArray, List.set_cons_zero, List.set_cons_succ, i64_w, i32_w]
       rfl
      refine pure_ (i := 16) (N := some 91) (v := undef) (a' := ?_) #[true, true, true, true, true, true, true, true, true, true, true, true, true, true, true, true, true, false, false, false, false, false] rfl rfl (any_of HT_.out (by kernel_rfl)) (fun _ _ _ h => h) (Or.inr ⟨by rfl, rfl⟩) ?_ ?_
      rotate_left
      ·simp only [Act.put, List.setIfInBounds_toArray, List.set_cons_zero, List.set_cons_succ, i64_w, i32_w]
       rfl
      refine pure_ (i := 17) (N := some 92) (v := undef) (a' := ?_) #[true, true, true, true, true, true, true, true, true, true, true, true, true, true, true, true, true, true, false, false, false, false] rfl rfl (any_of HT_.out (by kernel_rfl)) (fun _ _ _ h => h) (Or.inr ⟨by rfl, rfl⟩) ?_ ?_
      rotate_left
      ·simp only [Act.put, List.setIfInBounds_toArray, List.set_cons_zero, List.set_cons_succ, i64_w, i32_w]
       rfl
      refine pure_ (i := 18) (N := some 93) (v := undef) (a' := ?_) #[true, true, true, true, true, true, true, true, true, true, true, true, true, true, true, true, true, true, true, false, false, false] rfl rfl (any_of HT_.out (by kernel_rfl)) (fun _ _ _ h => h) (Or.inr ⟨by rfl, rfl⟩) ?_ ?_
      rotate_left
      ·simp only [Act.put, List.setIfInBounds_toArray, List.set_cons_zero, List.set_cons_succ, i64_w, i32_w]
       rfl
      refine pure_ (i := 19) (N := some 94) (v := undef) (a' := ?_) #[true, true, true, true, true, true, true, true, true, true, true, true, true, true, true, true, true, true, true, true, false, false] rfl rfl (any_of HT_.out (by kernel_rfl)) (fun _ _ _ h => h) (Or.inr ⟨by rfl, rfl⟩) ?_ ?_
      rotate_left
      ·simp only [Act.put, List.setIfInBounds_toArray, List.set_cons_zero, List.set_cons_succ, i64_w, i32_w]
       rfl
      refine pure_ (i := 20) (N := some 95) (v := undef) (a' := ?_) #[true, true, true, true, true, true, true, true, true, true, true, true, true, true, true, true, true, true, true, true, true, false] rfl rfl (any_of HT_.out (by kernel_rfl)) (fun _ _ _ h => h) (Or.inr ⟨by rfl, rfl⟩) ?_ ?_
      rotate_left
      ·simp only [Act.put, List.setIfInBounds_toArray, List.set_cons_zero, List.set_cons_succ, i64_w, i32_w]
       rfl
      refine pure_ (i := 21) (N := some 96) (v := ?_) (a' := ?_) #[true, true, true, true, true, true, true, true, true, true, true, true, true, true, true, true, true, true, true, true, true, true] rfl rfl (any_of HT_.out (by kernel_rfl)) (fun _ _ _ h => h) (Or.inl ⟨by rfl, ?_⟩) ?_ ?_
      rotate_left
      ·intro w'
       go_simp
       first | with_reducible rfl | rfl
      rotate_left
      ·simp only [Act.put, List.setIfInBounds_toArray, List.set_cons_zero, List.set_cons_succ, i64_w, i32_w]
       rfl
      refine done_ (done_of HT_.out (by kernel_rfl)) ?_
      try go_wp2
      go_ret2
      exact .inr ⟨HRX.out, by first | rfl | (simp; done), FE.out.hB⟩
     have r2_0 : decide (5 < (l.length : Int)) = false := decide_eq_false (by omega)
     have r2_1 : decide (5 < l.length) = false := decide_eq_false (by omega)
     have HL2 := Aside0.mk (show l.length ≤ 5 by omega)
     clear r1 r2 hji hji_
     by_cases r3 : mi < 1
     case pos =>
      have r3_0 : decide (mi < 1) = true := decide_eq_true (by omega)
      have HRX := Aside0.mk (show readOk R T = false by rw [HRB.out, not_all_rd _ R i HIL.out (by rw [HRI.out]; rw [decide_eq_false (show ¬ 1 ≤ mi by omega)]; simp only [Bool.false_and, Bool.and_false]), Bool.and_false])
      clear r3
      go_upto_region 15 with (fail)
      have n0_ := Aside0.mk (FE.out.below (below_drew1 (Below.refl _ _)))
      clear FE
      have FE := n0_
      clear n0_ hx
      refine start_ (n := 22) (S := fun w' => w'.cell? ⟨gb, 1, none⟩ = some (.slice At T.length ct)) (ds := []) #[false, false, false, false, false, false, false, false, false, false, false, false, false, false, false, false, false, false, false, false, false, false] (by kernel_rfl) rfl rfl ((blk_cell FE.out.bB 1).trans rfl) (fun hHeld => ?_); refine with_tabW read.tab15 read.bits15 (fun HT_ HW_ => ?_)
      generalize World.drew _ = wd at FE hHeld ⊢
      refine pure_ (i := 0) (N := some 75) (v := ?_) (a' := ?_) #[true, false, false, false, false, false, false, false, false, false, false, false, false, false, false, false, false, false, false, false, false, false] rfl rfl (any_of HT_.out (by kernel_rfl)) (fun _ _ _ h => h) (Or.inl ⟨by rfl, ?_⟩) ?_ ?_
      rotate_left
      ·intro w'
       go_simp
       first | with_reducible rfl | rfl
      rotate_left
      ·simp only [Act.put, List.setIfInBounds_toArray, List.set_cons_zero, List.set_cons_succ, i64_w, i32_w]
       rfl
      refine pure_ (i := 1) (N := some 76) (v := ?_) (a' := ?_) #[true, true, false, false, false, false, false, false, false, false, false, false, false, false, false, false, false, false, false, false, false, false] rfl rfl (any_of HT_.out (by kernel_rfl)) (fun _ _ _ h => h) (Or.inl ⟨by rfl, ?_⟩) ?_ ?_
      rotate_left
      ·intro w'
       go_simp
       first | with_reducible rfl | rfl
      rotate_left
      ·simp only [Act.put, List.setIfInBounds_toArray, List.set_cons_zero, List.set_cons_succ, i64_w, i32_w]
       rfl
      refine pure_ (i := 2) (N := some 77) (v := ?_) (a' := ?_) #[true, true, true, false, false, false, false, false, false, false, false, false, false, false, false, false, false, false, false, false, false, false] rfl rfl (any_of HT_.out (by kernel_rfl)) (fun _ _ _ h => h) (Or.inl ⟨by rfl, ?_⟩) ?_ ?_
      rotate_left
      ·intro w'
       go_simp
       first | with_reducible rfl | rfl
      rotate_left
      ·simp only [Act.put, List.setIfInBounds_toArray, List.set_cons_zero, List.set_cons_succ, i64_w, i32_w]
       rfl
      refine pure_ (i := 3) (N := some 78) (v := ?_) (a' := ?_) #[true, true, true, true, false, false, false, false, false, false, false, false, false, false, false, false, false, false, false, false, false, false] rfl rfl (any_of HT_.out (by kernel_rfl)) (fun _ _ _ h => h) (Or.inl ⟨by rfl, ?_⟩) ?_ ?_
      rotate_left
      ·intro w'
       go_simp
       first | with_reducible rfl | rfl
      rotate_left
      ·simp only [Act.put, List.setIfInBounds_toArray, List.set_cons_zero, List.set_cons_succ, i64_w, i32_w]
       rfl
      refine pure_ (i := 4) (N := some 79) (v := ?_) (a' := ?_) #[true, true, true, true, true, false, false, false, false, false, false, false, false, false, false, false, false, false, false, false, false, false] rfl rfl (any_of HT_.out (by kernel_rfl)) (fun _ _ _ h => h) (Or.inl ⟨by rfl, ?_⟩) ?_ ?_
      rotate_left
      ·intro w'
       go_simp
       first | with_reducible rfl | rfl
      rotate_left
      ·simp only [Act.put, List.setIfInBounds_toArray, List.set_cons_zero, List.set_cons_succ, i64_w, i32_w]
       rfl
      refine pure_ (i := 5) (N := some 80) (v := ?_) (a' := ?_) #[true, true, true, true, true, true, false, false, false, false, false, false, false, false, false, false, false, false, false, false, false, false] rfl rfl (any_of HT_.out (by kernel_rfl)) (fun _ _ _ h => h) (Or.inl ⟨by rfl, ?_⟩) ?_ ?_
      rotate_left
      ·intro w'
       go_simp
       first | with_reducible rfl | rfl
      rotate_left
      ·simp only [Act.put, List.setIfInBounds_toArray, List.set_cons_zero, List.set_cons_succ, i64_w, i32_w]
       rfl
      refine pure_ (i := 6) (N := some 81) (v := ?_) (a' := ?_) #[true, true, true, true, true, true, true, false, false, false, false, false, false, false, false, false, false, false, false, false, false, false] rfl rfl (any_of HT_.out (by kernel_rfl)) (fun _ _ _ h => h) (Or.inl ⟨by rfl, ?_⟩) ?_ ?_
      rotate_left
      ·intro w'
       go_simp
       first | with_reducible rfl | rfl
      rotate_left
      ·simp only [Act.put, List.setIfInBounds_toArray, List.set_cons_zero, List.set_cons_succ, i64_w, i32_w]
       rfl
      refine pure_ (i := 7) (N := some 82) (v := ?_) (a' := ?_) #[true, true, true, true, true, true, true, true, false, false, false, false, false, false, false, false, false, false, false, false, false, false] rfl rfl (any_of HT_.out (by kernel_rfl)) (fun _ _ _ h => h) (Or.inl ⟨by rfl, ?_⟩) ?_ ?_
      rotate_left
      ·intro w'
       go_simp
       first | with_reducible rfl | rfl
      rotate_left
      ·simp only [Act.put, List.setIfInBounds_toArray, List.set_cons_zero, List.set_cons_succ, i64_w, i32_w]
       rfl
      refine pure_ (i := 8) (N := some 83) (v := ?_) (a' := ?_) #[true, true, true, true, true, true, true, true, true, false, false, false, false, false, false, false, false, false, false, false, false, false] rfl rfl (any_of HT_.out (by kernel_rfl)) (fun _ _ _ h => h) (Or.inl ⟨by rfl, ?_⟩) ?_ ?_
      rotate_left
      ·intro w'
       go_simp
       first | with_reducible rfl | rfl
      rotate_left
      ·simp only [Act.put, List.setIfInBounds_toArray, List.set_cons_zero, List.set_cons_succ, i64_w, i32_w]
       rfl
      refine pure_ (i := 9) (N := some 84) (v := ?_) (a' := ?_) #[true, true, true, true, true, true, true, true, true, true, false, false, false, false, false, false, false, false, false, false, false, false] rfl rfl (any_of HT_.out (by kernel_rfl)) (fun _ _ _ h => h) (Or.inl ⟨by rfl, ?_⟩) ?_ ?_
      rotate_left
      ·intro w'
       go_simp
       first | with_reducible rfl | rfl
      rotate_left
      ·simp only [Act.put, List.setIfInBounds_toArray, List.set_cons_zero, List.set_cons_succ, i64_w, i32_w]
       rfl
      refine one_ (i := 10) (N := some 85) #[true, true, true, true, true, true, true, true, true, true, true, false, false, false, false, false, false, false, false, false, false, false] rfl rfl (one_of HT_.out (by kernel_rfl)) (by decide) (fun K hK => ?_)
      refine goes_ Try.func88 (by kernel_rfl) rfl #[.slice A0 l.length c0] (by rfl) rfl rfl (by (try simp only [List.map_toArray, List.map_cons, List.map_nil]); first | done | rfl) ?_
      refine (min_calls A0 c0 l _ (Kd.C_below HC.out FE.out.hB) (by have := HL1.out; omega) (by have := HL2.out; omega)).mono ?_
      rintro e w7 ⟨rfl, hb⟩
      rw [HMI.out]
      refine ⟨_, rfl, ?_⟩
      have n0_ := Aside0.mk (FE.out.below hb)
      clear FE hb
      have FE := n0_
      clear n0_
      refine hK.out _ _ ((blk_cell FE.out.bB 1).trans rfl) (fun hHeld => ?_)
      clear hK K
      refine norm_ (a' := ?_) ?_ ?_
      rotate_left
      ·show Act.put _ (some 85) _ = _
       simp only [Act.put, List.setIfInBounds_toArray, List.set_cons_zero, List.set_cons_succ, i64_w, i32_w]
       rfl
      refine pure_ (i := 11) (N := some 86) (v := ?_) (a' := ?_) #[true, true, true, true, true, true, true, true, true, true, true, true, false, false, false, false, false, false, false, false, false, false] rfl rfl (any_of HT_.out (by kernel_rfl)) (fun _ _ _ h => h) (Or.inl ⟨by rfl, ?_⟩) ?_ ?_
      rotate_left
      ·intro w'
       go_simp
       first | with_reducible rfl | rfl
      rotate_left
      ·simp only [Act.put, List.setIfInBounds_toArray, List.set_cons_zero, List.set_cons_succ, i64_w, i32_w]
       rfl
      refine pure_ (i := 12) (N := some 87) (v := ?_) (a' := ?_) #[true, true, true, true, true, true, true, true, true, true, true, true, true, false, false, false, false, false, false, false, false, false] rfl rfl (any_of HT_.out (by kernel_rfl)) (fun _ _ _ h => h) (Or.inl ⟨by rfl, ?_⟩) ?_ ?_
      rotate_left
      ·intro w'
       go_simp
       first | with_reducible rfl | rfl
      rotate_left
      ·simp only [Act.put, List.setIfInBounds_toArray, List.set_cons_zero, List.set_cons_succ, i64_w, i32_w]
       rfl
      refine pure_ (i := 13) (N := some 88) (v := ?_) (a' := ?_) #[true, true, true, true, true, true, true, true, true, true, true, true, true, true, false, false, false, false, false, false, false, false] rfl rfl (any_of HT_.out (by kernel_rfl)) (fun _ _ _ h => h) (Or.inl ⟨by rfl, ?_⟩) ?_ ?_
      rotate_left
      ·intro w'
       go_simp
       first | with_reducible rfl | rfl
      rotate_left
      ·simp only [Act.put, List.setIfInBounds_toArray, List.set_cons_zero, List.set_cons_succ, i64_w, i32_w]
       rfl
      refine pure_ (i := 14) (N := some 89) (v := undef) (a' := ?_) #[true, true, true, true, true, true, true, true, true, true, true, true, true, true, true, false, false, false, false, false, false, false] rfl rfl (any_of HT_.out (by kernel_rfl)) (fun _ _ _ h => h) (Or.inr ⟨by rfl, rfl⟩) ?_ ?_
      rotate_left
      ·simp only [Act.put, List.setIfInBounds_toArray, List.set_cons_zero, List.set_cons_succ, i64_w, i32_w]
       rfl
      refine pure_ (i := 15) (N := some 90) (v := undef) (a' := ?_) #[true, true, true, true, true, true, true, true, true, true, true, true, true, true, true, true, false, false, false, false, false, false] rfl rfl (any_of HT_.out (by kernel_rfl)) (fun _ _ _ h => h) (Or.inr ⟨by rfl, rfl⟩) ?_ ?_
      rotate_left
      ·simp only [Act.put, List.setIfInBounds_toArray, List.set_cons_zero, List.set_cons_succ, i64_w, i32_w]
       rfl
      refine pure_ (i := 16) (N := some 91) (v := undef) (a' := ?_) #[true, true, true, true, true, true, true, true, true, true, true, true, true, true, true, true, true, false, false, false, false, false] rfl rfl (any_of HT_.out (by kernel_rfl)) (fun _ _ _ h => h) (Or.inr ⟨by rfl, rfl⟩) ?_ ?_
      rotate_left
      ·simp only [Act.put, List.setIfInBounds_toArray, List.set_cons_zero, List.set_cons_succ, i64_w, i32_w]
       rfl
      refine pure_ (i := 17) (N := some 92) (v := undef) (a' := ?_) #[true, true, true, true, true, true, true, true, true, true, true, true, true, true, true, true, true, true, false, false, false, false] rfl rfl (any_of HT_.out (by kernel_rfl)) (fun _ _ _ h => h) (Or.inr ⟨by rfl, rfl⟩) ?_ ?_
      rotate_left
      ·simp only [Act.put, List.setIfInBounds_toArray, List.set_cons_zero, List.set_cons_succ, i64_w, i32_w]
       rfl
      refine pure_ (i := 18) (N := some 93) (v := undef) (a' := ?_) #[true, true, true, true, true, true, true, true, true, true, true, true, true, true, true, true, true, true, true, false, false, false] rfl rfl (any_of HT_.out (by kernel_rfl)) (fun _ _ _ h => h) (Or.inr ⟨by rfl, rfl⟩) ?_ ?_
      rotate_left
      ·simp only [Act.put, List.setIfInBounds_toArray, List.set_cons_zero, List.set_cons_succ, i64_w, i32_w]
       rfl
      refine pure_ (i := 19) (N := some 94) (v := undef) (a' := ?_) #[true, true, true, true, true, true, true, true, true, true, true, true, true, true, true, true, true, true, true, true, false, false] rfl rfl (any_of HT_.out (by kernel_rfl)) (fun _ _ _ h => h) (Or.inr ⟨by rfl, rfl⟩) ?_ ?_
      rotate_left
      ·simp only [Act.put, List.setIfInBounds_toArray, List.set_cons_zero, List.set_cons_succ, i64_w, i32_w]
       rfl
      refine pure_ (i := 20) (N := some 95) (v := undef) (a' := ?_) #[true, true, true, true, true, true, true, true, true, true, true, true, true, true, true, true, true, true, true, true, true, false] rfl rfl (any_of HT_.out (by kernel_rfl)) (fun _ _ _ h => h) (Or.inr ⟨by rfl, rfl⟩) ?_ ?_
      rotate_left
      ·simp only [Act.put, List.setIfInBounds_toArray, List.set_cons_zero, List.set_cons_succ, i64_w, i32_w]
       rfl
      refine pure_ (i := 21) (N := some 96) (v := ?_) (a' := ?_) #[true, true, true, true, true, true, true, true, true, true, true, true, true, true, true, true, true, true, true, true, true, true] rfl rfl (any_of HT_.out (by kernel_rfl)) (fun _ _ _ h => h) (Or.inl ⟨by rfl, ?_⟩) ?_ ?_
      rotate_left
      ·intro w'
       go_simp
       first | with_reducible rfl | rfl
      rotate_left
      ·simp only [Act.put, List.setIfInBounds_toArray, List.set_cons_zero, List.set_cons_succ, i64_w, i32_w]
       rfl
      refine done_ (done_of HT_.out (by kernel_rfl)) ?_
      try go_wp2
      go_ret2
      exact .inr ⟨HRX.out, by first | rfl | (simp; done), FE.out.hB⟩
     have r3_0 : decide (mi < 1) = false := decide_eq_false (by omega)
     have HR3 := Aside0.mk (show 1 ≤ mi by omega)
     clear r3
     by_cases r4 : ji ≤ ma
     case pos =>
      have r4_0 : decide (ji ≤ ma) = true := decide_eq_true (by omega)
      have HRX := Aside0.mk (show readOk R T = false by rw [HRB.out, not_all_rd _ R i HIL.out (by rw [HRI.out]; rw [decide_eq_false (show ¬ ma < ji by omega)]; simp only [Bool.false_and, Bool.and_false]), Bool.and_false])
      clear r4
      go_upto_region 15 with (fail)
      have n0_ := Aside0.mk (FE.out.below (below_drew1 (Below.refl _ _)))
      clear FE
      have FE := n0_
      clear n0_ hx
      refine start_ (n := 22) (S := fun w' => w'.cell? ⟨gb, 1, none⟩ = some (.slice At T.length ct)) (ds := []) #[false, false, false, false, false, false, false, false, false, false, false, false, false, false, false, false, false, false, false, false, false, false] (by kernel_rfl) rfl rfl ((blk_cell FE.out.bB 1).trans rfl) (fun hHeld => ?_); refine with_tabW read.tab15 read.bits15 (fun HT_ HW_ => ?_)
      generalize World.drew _ = wd at FE hHeld ⊢
      refine pure_ (i := 0) (N := some 75) (v := ?_) (a' := ?_) #[true, false, false, false, false, false, false, false, false, false, false, false, false, false, false, false, false, false, false, false, false, false] rfl rfl (any_of HT_.out (by kernel_rfl)) (fun _ _ _ h => h) (Or.inl ⟨by rfl, ?_⟩) ?_ ?_
      rotate_left
      ·intro w'
       go_simp
       first | with_reducible rfl | rfl
      rotate_left
      ·simp only [Act.put, List.setIfInBounds_toArray, List.set_cons_zero, List.set_cons_succ, i64_w, i32_w]
       rfl
      refine pure_ (i := 1) (N := some 76) (v := ?_) (a' := ?_) #[true, true, false, false, false, false, false, false, false, false, false, false, false, false, false, false, false, false, false, false, false, false] rfl rfl (any_of HT_.out (by kernel_rfl)) (fun _ _ _ h => h) (Or.inl ⟨by rfl, ?_⟩) ?_ ?_
      rotate_left
      ·intro w'
       go_simp
       first | with_reducible rfl | rfl
      rotate_left
      ·simp only [Act.put, List.setIfInBounds_toArray, List.set_cons_zero, List.set_cons_succ, i64_w, i32_w]
       rfl
      refine pure_ (i := 2) (N := some 77) (v := ?_) (a' := ?_) #[true, true, true, false, false, false, false, false, false, false, false, false, false, false, false, false, false, false, false, false, false, false] rfl rfl (any_of HT_.out (by kernel_rfl)) (fun _ _ _ h => h) (Or.inl ⟨by rfl, ?_⟩) ?_ ?_
      rotate_left
      ·intro w'
       go_simp
       first | with_reducible rfl | rfl
      rotate_left
      ·simp only [Act.put, List.setIfInBounds_toArray, List.set_cons_zero, List.set_cons_succ, i64_w, i32_w]
       rfl
      refine pure_ (i := 3) (N := some 78) (v := ?_) (a' := ?_) #[true, true, true, true, false, false, false, false, false, false, false, false, false, false, false, false, false, false, false, false, false, false] rfl rfl (any_of HT_.out (by kernel_rfl)) (fun _ _ _ h => h) (Or.inl ⟨by rfl, ?_⟩) ?_ ?_
      rotate_left
      ·intro w'
       go_simp
       first | with_reducible rfl | rfl
      rotate_left
      ·simp only [Act.put, List.setIfInBounds_toArray, List.set_cons_zero, List.set_cons_succ, i64_w, i32_w]
       rfl
      refine pure_ (i := 4) (N := some 79) (v := ?_) (a' := ?_) #[true, true, true, true, true, false, false, false, false, false, false, false, false, false, false, false, false, false, false, false, false, false] rfl rfl (any_of HT_.out (by kernel_rfl)) (fun _ _ _ h => h) (Or.inl ⟨by rfl, ?_⟩) ?_ ?_
      rotate_left
      ·intro w'
       go_simp
       first | with_reducible rfl | rfl
      rotate_left
      ·simp only [Act.put, List.setIfInBounds_toArray, List.set_cons_zero, List.set_cons_succ, i64_w, i32_w]
       rfl
      refine pure_ (i := 5) (N := some 80) (v := ?_) (a' := ?_) #[true, true, true, true, true, true, false, false, false, false, false, false, false, false, false, false, false, false, false, false, false, false] rfl rfl (any_of HT_.out (by kernel_rfl)) (fun _ _ _ h => h) (Or.inl ⟨by rfl, ?_⟩) ?_ ?_
      rotate_left
      ·intro w'
       go_simp
       first | with_reducible rfl | rfl
      rotate_left
      ·simp only [Act.put, List.setIfInBounds_toArray, List.set_cons_zero, List.set_cons_succ, i64_w, i32_w]
       rfl
      refine pure_ (i := 6) (N := some 81) (v := ?_) (a' := ?_) #[true, true, true, true, true, true, true, false, false, false, false, false, false, false, false, false, false, false, false, false, false, false] rfl rfl (any_of HT_.out (by kernel_rfl)) (fun _ _ _ h => h) (Or.inl ⟨by rfl, ?_⟩) ?_ ?_
      rotate_left
      ·intro w'
       go_simp
       first | with_reducible rfl | rfl
      rotate_left
      ·simp only [Act.put, List.setIfInBounds_toArray, List.set_cons_zero, List.set_cons_succ, i64_w, i32_w]
       rfl
      refine pure_ (i := 7) (N := some 82) (v := ?_) (a' := ?_) #[true, true, true, true, true, true, true, true, false, false, false, false, false, false, false, false, false, false, false, false, false, false] rfl rfl (any_of HT_.out (by kernel_rfl)) (fun _ _ _ h => h) (Or.inl ⟨by rfl, ?_⟩) ?_ ?_
      rotate_left
      ·intro w'
       go_simp
       first | with_reducible rfl | rfl
      rotate_left
      ·simp only [Act.put, List.setIfInBounds_toArray, List.set_cons_zero, List.set_cons_succ, i64_w, i32_w]
       rfl
      refine pure_ (i := 8) (N := some 83) (v := ?_) (a' := ?_) #[true, true, true, true, true, true, true, true, true, false, false, false, false, false, false, false, false, false, false, false, false, false] rfl rfl (any_of HT_.out (by kernel_rfl)) (fun _ _ _ h => h) (Or.inl ⟨by rfl, ?_⟩) ?_ ?_
      rotate_left
      ·intro w'
       go_simp
       first | with_reducible rfl | rfl
      rotate_left
      ·simp only [Act.put, List.setIfInBounds_toArray, List.set_cons_zero, List.set_cons_succ, i64_w, i32_w]
       rfl
      refine pure_ (i := 9) (N := some 84) (v := ?_) (a' := ?_) #[true, true, true, true, true, true, true, true, true, true, false, false, false, false, false, false, false, false, false, false, false, false] rfl rfl (any_of HT_.out (by kernel_rfl)) (fun _ _ _ h => h) (Or.inl ⟨by rfl, ?_⟩) ?_ ?_
      rotate_left
      ·intro w'
       go_simp
       first | with_reducible rfl | rfl
      rotate_left
      ·simp only [Act.put, List.setIfInBounds_toArray, List.set_cons_zero, List.set_cons_succ, i64_w, i32_w]
       rfl
      refine one_ (i := 10) (N := some 85) #[true, true, true, true, true, true, true, true, true, true, true, false, false, false, false, false, false, false, false, false, false, false] rfl rfl (one_of HT_.out (by kernel_rfl)) (by decide) (fun K hK => ?_)
      refine goes_ Try.func88 (by kernel_rfl) rfl #[.slice A0 l.length c0] (by rfl) rfl rfl (by (try simp only [List.map_toArray, List.map_cons, List.map_nil]); first | done | rfl) ?_
      refine (min_calls A0 c0 l _ (Kd.C_below HC.out FE.out.hB) (by have := HL1.out; omega) (by have := HL2.out; omega)).mono ?_
      rintro e w7 ⟨rfl, hb⟩
      rw [HMI.out]
      refine ⟨_, rfl, ?_⟩
      have n0_ := Aside0.mk (FE.out.below hb)
      clear FE hb
      have FE := n0_
      clear n0_
      refine hK.out _ _ ((blk_cell FE.out.bB 1).trans rfl) (fun hHeld => ?_)
      clear hK K
      refine norm_ (a' := ?_) ?_ ?_
      rotate_left
      ·show Act.put _ (some 85) _ = _
       simp only [Act.put, List.setIfInBounds_toArray, List.set_cons_zero, List.set_cons_succ, i64_w, i32_w]
       rfl
      refine pure_ (i := 11) (N := some 86) (v := ?_) (a' := ?_) #[true, true, true, true, true, true, true, true, true, true, true, true, false, false, false, false, false, false, false, false, false, false] rfl rfl (any_of HT_.out (by kernel_rfl)) (fun _ _ _ h => h) (Or.inl ⟨by rfl, ?_⟩) ?_ ?_
      rotate_left
      ·intro w'
       go_simp
       first | with_reducible rfl | rfl
      rotate_left
      ·simp only [Act.put, List.setIfInBounds_toArray, List.set_cons_zero, List.set_cons_succ, i64_w, i32_w]
       rfl
      refine pure_ (i := 12) (N := some 87) (v := ?_) (a' := ?_) #[true, true, true, true, true, true, true, true, true, true, true, true, true, false, false, false, false, false, false, false, false, false] rfl rfl (any_of HT_.out (by kernel_rfl)) (fun _ _ _ h => h) (Or.inl ⟨by rfl, ?_⟩) ?_ ?_
      rotate_left
      ·intro w'
       go_simp
       first | with_reducible rfl | rfl
      rotate_left
      ·simp only [Act.put, List.setIfInBounds_toArray, List.set_cons_zero, List.set_cons_succ, i64_w, i32_w]
       rfl
      refine pure_ (i := 13) (N := some 88) (v := ?_) (a' := ?_) #[true, true, true, true, true, true, true, true, true, true, true, true, true, true, false, false, false, false, false, false, false, false] rfl rfl (any_of HT_.out (by kernel_rfl)) (fun _ _ _ h => h) (Or.inl ⟨by rfl, ?_⟩) ?_ ?_
      rotate_left
      ·intro w'
       go_simp
       first | with_reducible rfl | rfl
      rotate_left
      ·simp only [Act.put, List.setIfInBounds_toArray, List.set_cons_zero, List.set_cons_succ, i64_w, i32_w]
       rfl
      refine pure_ (i := 14) (N := some 89) (v := ?_) (a' := ?_) #[true, true, true, true, true, true, true, true, true, true, true, true, true, true, true, false, false, false, false, false, false, false] rfl rfl (any_of HT_.out (by kernel_rfl)) (fun _ _ _ h => h) (Or.inl ⟨by rfl, ?_⟩) ?_ ?_
      rotate_left
      ·intro w'
       go_simp
       first | with_reducible rfl | rfl
      rotate_left
      ·simp only [Act.put, List.setIfInBounds_toArray, List.set_cons_zero, List.set_cons_succ, i64_w, i32_w]
       rfl
      refine pure_ (i := 16) (N := some 91) (v := ?_) (a' := ?_) #[true, true, true, true, true, true, true, true, true, true, true, true, true, true, true, false, true, false, false, false, false, false] rfl rfl (any_of HT_.out (by kernel_rfl)) (fun _ _ _ h => h) (Or.inl ⟨by rfl, ?_⟩) ?_ ?_
      rotate_left
      ·intro w'
       go_simp
       first | with_reducible rfl | rfl
      rotate_left
      ·simp only [Act.put, List.setIfInBounds_toArray, List.set_cons_zero, List.set_cons_succ, i64_w, i32_w]
       rfl
      refine take_ (i := 17) (N := some 92) (v := ?_) (a' := ?_) #[true, true, true, true, true, true, true, true, true, true, true, true, true, true, true, false, true, true, false, false, false, false] rfl rfl (take_ofW HT_.out HW_.out (by kernel_rfl)) (fun _ _ _ h => h) (Or.inl ⟨by rfl, ?_⟩) hHeld ?_ ?_
      rotate_left
      ·rintro w' s0
       go_simp
       first | with_reducible rfl | rfl
      rotate_left
      ·simp only [Act.put, List.setIfInBounds_toArray, List.set_cons_zero, List.set_cons_succ, i64_w, i32_w]
       rfl
      refine pure_ (i := 18) (N := some 93) (v := ?_) (a' := ?_) #[true, true, true, true, true, true, true, true, true, true, true, true, true, true, true, false, true, true, true, false, false, false] rfl rfl (any_of HT_.out (by kernel_rfl)) (fun _ _ _ h => h) (Or.inl ⟨by rfl, ?_⟩) ?_ ?_
      rotate_left
      ·intro w'
       go_simp
       first | with_reducible rfl | rfl
      rotate_left
      ·simp only [Act.put, List.setIfInBounds_toArray, List.set_cons_zero, List.set_cons_succ, i64_w, i32_w]
       rfl
      refine pure_ (i := 19) (N := some 94) (v := ?_) (a' := ?_) #[true, true, true, true, true, true, true, true, true, true, true, true, true, true, true, false, true, true, true, true, false, false] rfl rfl (any_of HT_.out (by kernel_rfl)) (fun _ _ _ h => h) (Or.inl ⟨by rfl, ?_⟩) ?_ ?_
      rotate_left
      ·intro w'
       go_simp
       first | with_reducible rfl | rfl
      rotate_left
      ·simp only [Act.put, List.setIfInBounds_toArray, List.set_cons_zero, List.set_cons_succ, i64_w, i32_w]
       rfl
      refine one_ (i := 15) (N := some 90) #[true, true, true, true, true, true, true, true, true, true, true, true, true, true, true, true, true, true, true, true, false, false] rfl rfl (one_of HT_.out (by kernel_rfl)) (by decide) (fun K hK => ?_)
      refine goes_ Try.func89 (by kernel_rfl) rfl #[.slice A0 l.length c0] (by rfl) rfl rfl (by (try simp only [List.map_toArray, List.map_cons, List.map_nil]); first | done | rfl) ?_
      refine (max_calls A0 c0 l _ (Kd.C_below HC.out FE.out.hB) (by have := HL1.out; omega) (by have := HL2.out; omega)).mono ?_
      rintro e w8 ⟨rfl, hb⟩
      rw [HMA.out]
      refine ⟨_, rfl, ?_⟩
      have n0_ := Aside0.mk (FE.out.below hb)
      clear FE hb
      have FE := n0_
      clear n0_
      refine hK.out _ _ ((blk_cell FE.out.bB 1).trans rfl) (fun hHeld => ?_)
      clear hK K
      refine norm_ (a' := ?_) ?_ ?_
      rotate_left
      ·show Act.put _ (some 90) _ = _
       simp only [Act.put, List.setIfInBounds_toArray, List.set_cons_zero, List.set_cons_succ, i64_w, i32_w]
       rfl
      refine pure_ (i := 20) (N := some 95) (v := ?_) (a' := ?_) #[true, true, true, true, true, true, true, true, true, true, true, true, true, true, true, true, true, true, true, true, true, false] rfl rfl (any_of HT_.out (by kernel_rfl)) (fun _ _ _ h => h) (Or.inl ⟨by rfl, ?_⟩) ?_ ?_
      rotate_left
      ·intro w'
       go_simp
       first | with_reducible rfl | rfl
      rotate_left
      ·simp only [Act.put, List.setIfInBounds_toArray, List.set_cons_zero, List.set_cons_succ, i64_w, i32_w]
       rfl
      refine pure_ (i := 21) (N := some 96) (v := ?_) (a' := ?_) #[true, true, true, true, true, true, true, true, true, true, true, true, true, true, true, true, true, true, true, true, true, true] rfl rfl (any_of HT_.out (by kernel_rfl)) (fun _ _ _ h => h) (Or.inl ⟨by rfl, ?_⟩) ?_ ?_
      rotate_left
      ·intro w'
       go_simp
       first | with_reducible rfl | rfl
      rotate_left
      ·simp only [Act.put, List.setIfInBounds_toArray, List.set_cons_zero, List.set_cons_succ, i64_w, i32_w]
       rfl
      refine done_ (done_of HT_.out (by kernel_rfl)) ?_
      try go_wp2
      go_ret2
      exact .inr ⟨HRX.out, by first | rfl | (simp; done), FE.out.hB⟩
     have r4_0 : decide (ji ≤ ma) = false := decide_eq_false (by omega)
     have HOK := Aside0.mk (show routeOk T.length (rd_L12 R (i : Int)) = true by rw [HRI.out]; simp only [Bool.and_eq_true, decide_eq_true_eq]; exact ⟨⟨⟨HL1.out, HL2.out⟩, HR3.out⟩, by omega⟩)
     clear r4
     go_upto_region 15 with (fail)
     have n0_ := Aside0.mk (FE.out.below (below_drew1 (Below.refl _ _)))
     clear FE
     have FE := n0_
     clear n0_ hx
     refine start_ (n := 22) (S := fun w' => w'.cell? ⟨gb, 1, none⟩ = some (.slice At T.length ct)) (ds := []) #[false, false, false, false, false, false, false, false, false, false, false, false, false, false, false, false, false, false, false, false, false, false] (by kernel_rfl) rfl rfl ((blk_cell FE.out.bB 1).trans rfl) (fun hHeld => ?_); refine with_tabW read.tab15 read.bits15 (fun HT_ HW_ => ?_)
     generalize World.drew _ = wd at FE hHeld ⊢
     refine pure_ (i := 0) (N := some 75) (v := ?_) (a' := ?_) #[true, false, false, false, false, false, false, false, false, false, false, false, false, false, false, false, false, false, false, false, false, false] rfl rfl (any_of HT_.out (by kernel_rfl)) (fun _ _ _ h => h) (Or.inl ⟨by rfl, ?_⟩) ?_ ?_
     rotate_left
     ·intro w'
      go_simp
      first | with_reducible rfl | rfl
     rotate_left
     ·simp only [Act.put, List.setIfInBounds_toArray, List.set_cons_zero, List.set_cons_succ, i64_w, i32_w]
      rfl
     refine pure_ (i := 1) (N := some 76) (v := ?_) (a' := ?_) #[true, true, false, false, false, false, false, false, false, false, false, false, false, false, false, false, false, false, false, false, false, false] rfl rfl (any_of HT_.out (by kernel_rfl)) (fun _ _ _ h => h) (Or.inl ⟨by rfl, ?_⟩) ?_ ?_
     rotate_left
     ·intro w'
      go_simp
      first | with_reducible rfl | rfl
     rotate_left
     ·simp only [Act.put, List.setIfInBounds_toArray, List.set_cons_zero, List.set_cons_succ, i64_w, i32_w]
      rfl
     refine pure_ (i := 2) (N := some 77) (v := ?_) (a' := ?_) #[true, true, true, false, false, false, false, false, false, false, false, false, false, false, false, false, false, false, false, false, false, false] rfl rfl (any_of HT_.out (by kernel_rfl)) (fun _ _ _ h => h) (Or.inl ⟨by rfl, ?_⟩) ?_ ?_
     rotate_left
     ·intro w'
      go_simp
      first | with_reducible rfl | rfl
     rotate_left
     ·simp only [Act.put, List.setIfInBounds_toArray, List.set_cons_zero, List.set_cons_succ, i64_w, i32_w]
      rfl
     refine pure_ (i := 3) (N := some 78) (v := ?_) (a' := ?_) #[true, true, true, true, false, false, false, false, false, false, false, false, false, false, false, false, false, false, false, false, false, false] rfl rfl (any_of HT_.out (by kernel_rfl)) (fun _ _ _ h => h) (Or.inl ⟨by rfl, ?_⟩) ?_ ?_
     rotate_left
     ·intro w'
      go_simp
      first | with_reducible rfl | rfl
     rotate_left
     ·simp only [Act.put, List.setIfInBounds_toArray, List.set_cons_zero, List.set_cons_succ, i64_w, i32_w]
      rfl
     refine pure_ (i := 4) (N := some 79) (v := ?_) (a' := ?_) #[true, true, true, true, true, false, false, false, false, false, false, false, false, false, false, false, false, false, false, false, false, false] rfl rfl (any_of HT_.out (by kernel_rfl)) (fun _ _ _ h => h) (Or.inl ⟨by rfl, ?_⟩) ?_ ?_
     rotate_left
     ·intro w'
      go_simp
      first | with_reducible rfl | rfl
     rotate_left
     ·simp only [Act.put, List.setIfInBounds_toArray, List.set_cons_zero, List.set_cons_succ, i64_w, i32_w]
      rfl
     refine pure_ (i := 5) (N := some 80) (v := ?_) (a' := ?_) #[true, true, true, true, true, true, false, false, false, false, false, false, false, false, false, false, false, false, false, false, false, false] rfl rfl (any_of HT_.out (by kernel_rfl)) (fun _ _ _ h => h) (Or.inl ⟨by rfl, ?_⟩) ?_ ?_
     rotate_left
     ·intro w'
      go_simp
      first | with_reducible rfl | rfl
     rotate_left
     ·simp only [Act.put, List.setIfInBounds_toArray, List.set_cons_zero, List.set_cons_succ, i64_w, i32_w]
      rfl
     refine pure_ (i := 6) (N := some 81) (v := ?_) (a' := ?_) #[true, true, true, true, true, true, true, false, false, false, false, false, false, false, false, false, false, false, false, false, false, false] rfl rfl (any_of HT_.out (by kernel_rfl)) (fun _ _ _ h => h) (Or.inl ⟨by rfl, ?_⟩) ?_ ?_
     rotate_left
     ·intro w'
      go_simp
      first | with_reducible rfl | rfl
     rotate_left
     ·simp only [Act.put, List.setIfInBounds_toArray, List.set_cons_zero, List.set_cons_succ, i64_w, i32_w]
      rfl
     refine pure_ (i := 7) (N := some 82) (v := ?_) (a' := ?_) #[true, true, true, true, true, true, true, true, false, false, false, false, false, false, false, false, false, false, false, false, false, false] rfl rfl (any_of HT_.out (by kernel_rfl)) (fun _ _ _ h => h) (Or.inl ⟨by rfl, ?_⟩) ?_ ?_
     rotate_left
     ·intro w'
      go_simp
      first | with_reducible rfl | rfl
     rotate_left
     ·simp only [Act.put, List.setIfInBounds_toArray, List.set_cons_zero, List.set_cons_succ, i64_w, i32_w]
      rfl
     refine pure_ (i := 8) (N := some 83) (v := ?_) (a' := ?_) #[true, true, true, true, true, true, true, true, true, false, false, false, false, false, false, false, false, false, false, false, false, false] rfl rfl (any_of HT_.out (by kernel_rfl)) (fun _ _ _ h => h) (Or.inl ⟨by rfl, ?_⟩) ?_ ?_
     rotate_left
     ·intro w'
      go_simp
      first | with_reducible rfl | rfl
     rotate_left
     ·simp only [Act.put, List.setIfInBounds_toArray, List.set_cons_zero, List.set_cons_succ, i64_w, i32_w]
      rfl
     refine pure_ (i := 9) (N := some 84) (v := ?_) (a' := ?_) #[true, true, true, true, true, true, true, true, true, true, false, false, false, false, false, false, false, false, false, false, false, false] rfl rfl (any_of HT_.out (by kernel_rfl)) (fun _ _ _ h => h) (Or.inl ⟨by rfl, ?_⟩) ?_ ?_
     rotate_left
     ·intro w'
      go_simp
      first | with_reducible rfl | rfl
     rotate_left
     ·simp only [Act.put, List.setIfInBounds_toArray, List.set_cons_zero, List.set_cons_succ, i64_w, i32_w]
      rfl
     refine one_ (i := 10) (N := some 85) #[true, true, true, true, true, true, true, true, true, true, true, false, false, false, false, false, false, false, false, false, false, false] rfl rfl (one_of HT_.out (by kernel_rfl)) (by decide) (fun K hK => ?_)
     refine goes_ Try.func88 (by kernel_rfl) rfl #[.slice A0 l.length c0] (by rfl) rfl rfl (by (try simp only [List.map_toArray, List.map_cons, List.map_nil]); first | done | rfl) ?_
     refine (min_calls A0 c0 l _ (Kd.C_below HC.out FE.out.hB) (by have := HL1.out; omega) (by have := HL2.out; omega)).mono ?_
     rintro e w7 ⟨rfl, hb⟩
     rw [HMI.out]
     refine ⟨_, rfl, ?_⟩
     have n0_ := Aside0.mk (FE.out.below hb)
     clear FE hb
     have FE := n0_
     clear n0_
     refine hK.out _ _ ((blk_cell FE.out.bB 1).trans rfl) (fun hHeld => ?_)
     clear hK K
     refine norm_ (a' := ?_) ?_ ?_
     rotate_left
     ·show Act.put _ (some 85) _ = _
      simp only [Act.put, List.setIfInBounds_toArray, List.set_cons_zero, List.set_cons_succ, i64_w, i32_w]
      rfl
     refine pure_ (i := 11) (N := some 86) (v := ?_) (a' := ?_) #[true, true, true, true, true, true, true, true, true, true, true, true, false, false, false, false, false, false, false, false, false, false] rfl rfl (any_of HT_.out (by kernel_rfl)) (fun _ _ _ h => h) (Or.inl ⟨by rfl, ?_⟩) ?_ ?_
     rotate_left
     ·intro w'
      go_simp
      first | with_reducible rfl | rfl
     rotate_left
     ·simp only [Act.put, List.setIfInBounds_toArray, List.set_cons_zero, List.set_cons_succ, i64_w, i32_w]
      rfl
     refine pure_ (i := 12) (N := some 87) (v := ?_) (a' := ?_) #[true, true, true, true, true, true, true, true, true, true, true, true, true, false, false, false, false, false, false, false, false, false] rfl rfl (any_of HT_.out (by kernel_rfl)) (fun _ _ _ h => h) (Or.inl ⟨by rfl, ?_⟩) ?_ ?_
     rotate_left
     ·intro w'
      go_simp
      first | with_reducible rfl | rfl
     rotate_left
     ·simp only [Act.put, List.setIfInBounds_toArray, List.set_cons_zero, List.set_cons_succ, i64_w, i32_w]
      rfl
     refine pure_ (i := 13) (N := some 88) (v := ?_) (a' := ?_) #[true, true, true, true, true, true, true, true, true, true, true, true, true, true, false, false, false, false, false, false, false, false] rfl rfl (any_of HT_.out (by kernel_rfl)) (fun _ _ _ h => h) (Or.inl ⟨by rfl, ?_⟩) ?_ ?_
     rotate_left
     ·intro w'
      go_simp
      first | with_reducible rfl | rfl
     rotate_left
     ·simp only [Act.put, List.setIfInBounds_toArray, List.set_cons_zero, List.set_cons_succ, i64_w, i32_w]
      rfl
     refine pure_ (i := 14) (N := some 89) (v := ?_) (a' := ?_) #[true, true, true, true, true, true, true, true, true, true, true, true, true, true, true, false, false, false, false, false, false, false] rfl rfl (any_of HT_.out (by kernel_rfl)) (fun _ _ _ h => h) (Or.inl ⟨by rfl, ?_⟩) ?_ ?_
     rotate_left
     ·intro w'
      go_simp
      first | with_reducible rfl | rfl
     rotate_left
     ·simp only [Act.put, List.setIfInBounds_toArray, List.set_cons_zero, List.set_cons_succ, i64_w, i32_w]
      rfl
     refine pure_ (i := 16) (N := some 91) (v := ?_) (a' := ?_) #[true, true, true, true, true, true, true, true, true, true, true, true, true, true, true, false, true, false, false, false, false, false] rfl rfl (any_of HT_.out (by kernel_rfl)) (fun _ _ _ h => h) (Or.inl ⟨by rfl, ?_⟩) ?_ ?_
     rotate_left
     ·intro w'
      go_simp
      first | with_reducible rfl | rfl
     rotate_left
     ·simp only [Act.put, List.setIfInBounds_toArray, List.set_cons_zero, List.set_cons_succ, i64_w, i32_w]
      rfl
     refine take_ (i := 17) (N := some 92) (v := ?_) (a' := ?_) #[true, true, true, true, true, true, true, true, true, true, true, true, true, true, true, false, true, true, false, false, false, false] rfl rfl (take_ofW HT_.out HW_.out (by kernel_rfl)) (fun _ _ _ h => h) (Or.inl ⟨by rfl, ?_⟩) hHeld ?_ ?_
     rotate_left
     ·rintro w' s0
      go_simp
      first | with_reducible rfl | rfl
     rotate_left
     ·simp only [Act.put, List.setIfInBounds_toArray, List.set_cons_zero, List.set_cons_succ, i64_w, i32_w]
      rfl
     refine pure_ (i := 18) (N := some 93) (v := ?_) (a' := ?_) #[true, true, true, true, true, true, true, true, true, true, true, true, true, true, true, false, true, true, true, false, false, false] rfl rfl (any_of HT_.out (by kernel_rfl)) (fun _ _ _ h => h) (Or.inl ⟨by rfl, ?_⟩) ?_ ?_
     rotate_left
     ·intro w'
      go_simp
      first | with_reducible rfl | rfl
     rotate_left
     ·simp only [Act.put, List.setIfInBounds_toArray, List.set_cons_zero, List.set_cons_succ, i64_w, i32_w]
      rfl
     refine pure_ (i := 19) (N := some 94) (v := ?_) (a' := ?_) #[true, true, true, true, true, true, true, true, true, true, true, true, true, true, true, false, true, true, true, true, false, false] rfl rfl (any_of HT_.out (by kernel_rfl)) (fun _ _ _ h => h) (Or.inl ⟨by rfl, ?_⟩) ?_ ?_
     rotate_left
     ·intro w'
      go_simp
      first | with_reducible rfl | rfl
     rotate_left
     ·simp only [Act.put, List.setIfInBounds_toArray, List.set_cons_zero, List.set_cons_succ, i64_w, i32_w]
      rfl
     refine one_ (i := 15) (N := some 90) #[true, true, true, true, true, true, true, true, true, true, true, true, true, true, true, true, true, true, true, true, false, false] rfl rfl (one_of HT_.out (by kernel_rfl)) (by decide) (fun K hK => ?_)
     refine goes_ Try.func89 (by kernel_rfl) rfl #[.slice A0 l.length c0] (by rfl) rfl rfl (by (try simp only [List.map_toArray, List.map_cons, List.map_nil]); first | done | rfl) ?_
     refine (max_calls A0 c0 l _ (Kd.C_below HC.out FE.out.hB) (by have := HL1.out; omega) (by have := HL2.out; omega)).mono ?_
     rintro e w8 ⟨rfl, hb⟩
     rw [HMA.out]
     refine ⟨_, rfl, ?_⟩
     have n0_ := Aside0.mk (FE.out.below hb)
     clear FE hb
     have FE := n0_
     clear n0_
     refine hK.out _ _ ((blk_cell FE.out.bB 1).trans rfl) (fun hHeld => ?_)
     clear hK K
     refine norm_ (a' := ?_) ?_ ?_
     rotate_left
     ·show Act.put _ (some 90) _ = _
      simp only [Act.put, List.setIfInBounds_toArray, List.set_cons_zero, List.set_cons_succ, i64_w, i32_w]
      rfl
     refine pure_ (i := 20) (N := some 95) (v := ?_) (a' := ?_) #[true, true, true, true, true, true, true, true, true, true, true, true, true, true, true, true, true, true, true, true, true, false] rfl rfl (any_of HT_.out (by kernel_rfl)) (fun _ _ _ h => h) (Or.inl ⟨by rfl, ?_⟩) ?_ ?_
     rotate_left
     ·intro w'
      go_simp
      first | with_reducible rfl | rfl
     rotate_left
     ·simp only [Act.put, List.setIfInBounds_toArray, List.set_cons_zero, List.set_cons_succ, i64_w, i32_w]
      rfl
     refine pure_ (i := 21) (N := some 96) (v := ?_) (a' := ?_) #[true, true, true, true, true, true, true, true, true, true, true, true, true, true, true, true, true, true, true, true, true, true] rfl rfl (any_of HT_.out (by kernel_rfl)) (fun _ _ _ h => h) (Or.inl ⟨by rfl, ?_⟩) ?_ ?_
     rotate_left
     ·intro w'
      go_simp
      first | with_reducible rfl | rfl
     rotate_left
     ·simp only [Act.put, List.setIfInBounds_toArray, List.set_cons_zero, List.set_cons_succ, i64_w, i32_w]
      rfl
     refine done_ (done_of HT_.out (by kernel_rfl)) ?_
     try go_wp2
     go_roundg k1
     case measure => omega
     case rel => exact ⟨i + 1, val_succ i (by have := HIL.out; have := HN.out; omega), ⟨by have := HI.out; omega⟩, ⟨fun a ha => by rcases Nat.lt_or_ge a i with h | h; exact HA.out a h; (have : a = i := by omega); rw [this]; exact HOK.out⟩, FE⟩
  | succ k1 =>
   have hj0 : (0 : Int) ≤ (j : Int) := Int.natCast_nonneg _
   have hj1 : (j : Int) < (T.length : Int) := by have := HJ.out; omega
   have c5b : decide ((j : Int) < (T.length : Int)) = true := decide_eq_true hj1
   have c5b2 : decide (j < T.length) = true := decide_eq_true (by omega)
   have hj2 : (j < T.length) = True := eq_true (by omega)
   obtain ⟨ad, A0, c0, e, hx, hc0, hC⟩ := at_L12 HRT.out (j : Int) hj0 hj1
   cases e
   simp only [Int.toNat_natCast] at hx
   replace hx := (FE.out.hB.cell (World.block_lt_of_cell? w _ hx)).trans hx
   obtain ⟨t, ht⟩ : ∃ t, rd_L12 T (j : Int) = t := ⟨_, rfl⟩
   have HTT := Aside0.mk ht
   rw [ht] at hx hc0 hC
   clear ht
   have HC0 := Aside0.mk hc0
   have HC := Aside0.mk hC
   clear hc0 hC
   replace hj0 := eq_true hj0
   replace hj1 := eq_true hj1
   have HJL := Aside0.mk (show j < T.length by have := HJ.out; omega)
   by_cases t1 : t.length = R.length
   case neg =>
    have t1b : ((t.length : Int) == (R.length : Int)) = false := beq_eq_false_iff_ne.mpr (by omega)
    have t1c : ((t.length : Int) != (R.length : Int)) = true := bne_iff_ne.mpr (by omega)
    have t1d : (t.length == R.length) = false := beq_eq_false_iff_ne.mpr t1
    have t1e : (t.length != R.length) = true := bne_iff_ne.mpr t1
    have t1f : decide (t.length = R.length) = false := decide_eq_false t1
    have HRX := Aside0.mk (show readOk R T = false by rw [HRB.out, not_all_rd _ T j HJL.out (by rw [HTT.out]; unfold tollOk; rw [decide_eq_false t1]; simp only [Bool.false_and]), Bool.false_and])
    clear t1
    go_wp2
    go_ret2
    exact .inr ⟨HRX.out, by first | rfl | (simp; done), FE.out.hB⟩
   have t1b : ((t.length : Int) == (R.length : Int)) = true := beq_iff_eq.mpr (by omega)
   have t1c : ((t.length : Int) != (R.length : Int)) = false := bne_eq_false_iff_eq.mpr (by omega)
   have t1d : (t.length == R.length) = true := beq_iff_eq.mpr t1
   have t1e : (t.length != R.length) = false := bne_eq_false_iff_eq.mpr t1
   have t1f : decide (t.length = R.length) = true := decide_eq_true t1
   have HT1 := Aside0.mk t1
   clear t1
   obtain ⟨mi, hmi⟩ : ∃ mi, minU t (t.length - 1) = mi := ⟨_, rfl⟩
   have HMI := Aside0.mk hmi
   clear hmi
   obtain ⟨ma, hma⟩ : ∃ ma, maxU t (t.length - 1) = ma := ⟨_, rfl⟩
   have HMA := Aside0.mk hma
   clear hma
   by_cases t2 : mi < 0
   case pos =>
    have t2b : decide (mi < 0) = true := decide_eq_true t2
    have HRX := Aside0.mk (show readOk R T = false by rw [HRB.out, not_all_rd _ T j HJL.out (by rw [HTT.out]; unfold tollOk; rw [HMI.out, decide_eq_false (show ¬ 0 ≤ mi by omega)]; simp only [Bool.false_and, Bool.and_false]), Bool.false_and])
    clear t2
    go_wp2_with (first | (go_at_call 88; ((refine (min_calls A0 c0 t _ (Kd.C_below HC.out FE.out.hB) (by have := HT1.out; have := HN.out; omega) (by have := HT1.out; have := HN.out; omega)).mono ?_); rintro e w5 ⟨rfl, hb⟩; rw [HMI.out]; have n0_ := Aside0.mk (FE.out.below hb); clear FE hb hb_0 hb_1 hq_0; have FE := n0_; clear n0_; have hb_0 : w5.cell? ⟨gb, 0, none⟩ = some (.slice Ar R.length cr) := (blk_cell FE.out.bB 0).trans rfl; have hb_1 : w5.cell? ⟨gb, 1, none⟩ = some (.slice (some ad) T.length ct) := (blk_cell FE.out.bB 1).trans rfl; have hq_0 : w5.cell? ⟨q, 0, none⟩ = some (.pointer (some ⟨g, 0, none⟩)) := (blk_cell FE.out.qB 0).trans rfl)))
    go_ret2
    exact .inr ⟨HRX.out, by first | rfl | (simp; done), FE.out.hB⟩
   have t2b : decide (mi < 0) = false := decide_eq_false t2
   have HT2 := Aside0.mk (show 0 ≤ mi by omega)
   clear t2
   by_cases t3 : 1000 < ma
   case pos =>
    have t3b : decide (1000 < ma) = true := decide_eq_true t3
    have HRX := Aside0.mk (show readOk R T = false by rw [HRB.out, not_all_rd _ T j HJL.out (by rw [HTT.out]; unfold tollOk; rw [HMA.out, decide_eq_false (show ¬ ma ≤ 1000 by omega)]; simp only [Bool.and_false]), Bool.false_and])
    clear t3
    go_wp2_with (first | (go_at_call 88; ((refine (min_calls A0 c0 t _ (Kd.C_below HC.out FE.out.hB) (by have := HT1.out; have := HN.out; omega) (by have := HT1.out; have := HN.out; omega)).mono ?_); rintro e w5 ⟨rfl, hb⟩; rw [HMI.out]; have n0_ := Aside0.mk (FE.out.below hb); clear FE hb hb_0 hb_1 hq_0; have FE := n0_; clear n0_; have hb_0 : w5.cell? ⟨gb, 0, none⟩ = some (.slice Ar R.length cr) := (blk_cell FE.out.bB 0).trans rfl; have hb_1 : w5.cell? ⟨gb, 1, none⟩ = some (.slice (some ad) T.length ct) := (blk_cell FE.out.bB 1).trans rfl; have hq_0 : w5.cell? ⟨q, 0, none⟩ = some (.pointer (some ⟨g, 0, none⟩)) := (blk_cell FE.out.qB 0).trans rfl)) | (go_at_call 89; ((refine (max_calls A0 c0 t _ (Kd.C_below HC.out FE.out.hB) (by have := HT1.out; have := HN.out; omega) (by have := HT1.out; have := HN.out; omega)).mono ?_); rintro e w6 ⟨rfl, hb⟩; rw [HMA.out]; have n0_ := Aside0.mk (FE.out.below hb); clear FE hb hb_0 hb_1 hq_0; have FE := n0_; clear n0_; have hb_0 : w6.cell? ⟨gb, 0, none⟩ = some (.slice Ar R.length cr) := (blk_cell FE.out.bB 0).trans rfl; have hb_1 : w6.cell? ⟨gb, 1, none⟩ = some (.slice (some ad) T.length ct) := (blk_cell FE.out.bB 1).trans rfl; have hq_0 : w6.cell? ⟨q, 0, none⟩ = some (.pointer (some ⟨g, 0, none⟩)) := (blk_cell FE.out.qB 0).trans rfl)))
    go_ret2
    exact .inr ⟨HRX.out, by first | rfl | (simp; done), FE.out.hB⟩
   have t3b : decide (1000 < ma) = false := decide_eq_false t3
   have HOK := Aside0.mk (show tollOk R.length (rd_L12 T (j : Int)) = true by rw [HTT.out]; unfold tollOk; rw [HMI.out, HMA.out]; simp only [Bool.and_eq_true, decide_eq_true_eq]; exact ⟨⟨HT1.out, HT2.out⟩, by omega⟩)
   clear t3
   go_upto_region 10 with (first | (go_at_call 88; ((refine (min_calls A0 c0 t _ (Kd.C_below HC.out FE.out.hB) (by have := HT1.out; have := HN.out; omega) (by have := HT1.out; have := HN.out; omega)).mono ?_); rintro e w5 ⟨rfl, hb⟩; rw [HMI.out]; have n0_ := Aside0.mk (FE.out.below hb); clear FE hb hb_0 hb_1 hq_0; have FE := n0_; clear n0_; have hb_0 : w5.cell? ⟨gb, 0, none⟩ = some (.slice Ar R.length cr) := (blk_cell FE.out.bB 0).trans rfl; have hb_1 : w5.cell? ⟨gb, 1, none⟩ = some (.slice (some ad) T.length ct) := (blk_cell FE.out.bB 1).trans rfl; have hq_0 : w5.cell? ⟨q, 0, none⟩ = some (.pointer (some ⟨g, 0, none⟩)) := (blk_cell FE.out.qB 0).trans rfl)) | (go_at_call 89; ((refine (max_calls A0 c0 t _ (Kd.C_below HC.out FE.out.hB) (by have := HT1.out; have := HN.out; omega) (by have := HT1.out; have := HN.out; omega)).mono ?_); rintro e w6 ⟨rfl, hb⟩; rw [HMA.out]; have n0_ := Aside0.mk (FE.out.below hb); clear FE hb hb_0 hb_1 hq_0; have FE := n0_; clear n0_; have hb_0 : w6.cell? ⟨gb, 0, none⟩ = some (.slice Ar R.length cr) := (blk_cell FE.out.bB 0).trans rfl; have hb_1 : w6.cell? ⟨gb, 1, none⟩ = some (.slice (some ad) T.length ct) := (blk_cell FE.out.bB 1).trans rfl; have hq_0 : w6.cell? ⟨q, 0, none⟩ = some (.pointer (some ⟨g, 0, none⟩)) := (blk_cell FE.out.qB 0).trans rfl)))
   obtain ⟨Av, cv, hvv⟩ := Kd.R_slice FE.out.hL
   subst hvv
   have n0_ := Aside0.mk (FE.out.below (below_drew1 (Below.refl _ _)))
   clear FE hb_0 hb_1 hq_0 hx
   have FE := n0_
   clear n0_
   refine start_ (n := 12) (S := fun w' => w'.cell? ⟨q, 0, none⟩ = some (.pointer (some ⟨g, 0, none⟩)) ∧ w'.cell? ⟨g, 1, none⟩ = some (.slice Av vals.length cv)) (ds := [11]) #[false, false, false, false, false, false, false, false, false, false, false, false] (by kernel_rfl) rfl rfl ⟨(blk_cell FE.out.qB 0).trans rfl, (blk_cell FE.out.gB 1).trans rfl⟩ (fun hHeld => ?_); refine with_tabW read.tab10 read.bits10 (fun HT_ HW_ => ?_)
   generalize w6.drew = wd at FE hHeld ⊢
   refine pure_ (i := 5) (N := some 61) (v := ?_) (a' := ?_) #[false, false, false, false, false, true, false, false, false, false, false, false] rfl rfl (any_of HT_.out (by kernel_rfl)) (fun _ _ _ h => h) (Or.inl ⟨by rfl, ?_⟩) ?_ ?_
   rotate_left
   ·intro w'
    go_simp
    first | with_reducible rfl | rfl
   rotate_left
   ·simp only [Act.put, List.setIfInBounds_toArray, List.set_cons_zero, List.set_cons_succ, i64_w, i32_w]
    rfl
   refine pure_ (i := 6) (N := some 62) (v := ?_) (a' := ?_) #[false, false, false, false, false, true, true, false, false, false, false, false] rfl rfl (any_of HT_.out (by kernel_rfl)) (fun _ _ _ h => h) (Or.inl ⟨by rfl, ?_⟩) ?_ ?_
   rotate_left
   ·intro w'
    go_simp
    first | with_reducible rfl | rfl
   rotate_left
   ·simp only [Act.put, List.setIfInBounds_toArray, List.set_cons_zero, List.set_cons_succ, i64_w, i32_w]
    rfl
   refine take_ (i := 0) (N := some 56) (v := ?_) (a' := ?_) #[true, false, false, false, false, true, true, false, false, false, false, false] rfl rfl (take_ofW HT_.out HW_.out (by kernel_rfl)) (fun _ _ _ h => h) (Or.inl ⟨by rfl, ?_⟩) hHeld ?_ ?_
   rotate_left
   ·rintro w' ⟨s0, s1⟩
    go_simp
    first | with_reducible rfl | rfl
   rotate_left
   ·simp only [Act.put, List.setIfInBounds_toArray, List.set_cons_zero, List.set_cons_succ, i64_w, i32_w]
    rfl
   refine take_ (i := 1) (N := some 57) (v := ?_) (a' := ?_) #[true, true, false, false, false, true, true, false, false, false, false, false] rfl rfl (take_ofW HT_.out HW_.out (by kernel_rfl)) (fun _ _ _ h => h) (Or.inl ⟨by rfl, ?_⟩) hHeld ?_ ?_
   rotate_left
   ·rintro w' ⟨s0, s1⟩
    go_simp
    first | with_reducible rfl | rfl
   rotate_left
   ·simp only [Act.put, List.setIfInBounds_toArray, List.set_cons_zero, List.set_cons_succ, i64_w, i32_w]
    rfl
   refine pure_ (i := 2) (N := some 58) (v := ?_) (a' := ?_) #[true, true, true, false, false, true, true, false, false, false, false, false] rfl rfl (any_of HT_.out (by kernel_rfl)) (fun _ _ _ h => h) (Or.inl ⟨by rfl, ?_⟩) ?_ ?_
   rotate_left
   ·intro w'
    go_simp
    first | with_reducible rfl | rfl
   rotate_left
   ·simp only [Act.put, List.setIfInBounds_toArray, List.set_cons_zero, List.set_cons_succ, i64_w, i32_w]
    rfl
   refine pure_ (i := 3) (N := some 59) (v := ?_) (a' := ?_) #[true, true, true, true, false, true, true, false, false, false, false, false] rfl rfl (any_of HT_.out (by kernel_rfl)) (fun _ _ _ h => h) (Or.inl ⟨by rfl, ?_⟩) ?_ ?_
   rotate_left
   ·intro w'
    go_simp
    first | with_reducible rfl | rfl
   rotate_left
   ·simp only [Act.put, List.setIfInBounds_toArray, List.set_cons_zero, List.set_cons_succ, i64_w, i32_w]
    rfl
   refine take_ (i := 4) (N := some 60) (v := ?_) (a' := ?_) #[true, true, true, true, true, true, true, false, false, false, false, false] rfl rfl (take_ofW HT_.out HW_.out (by kernel_rfl)) (fun _ _ _ h => h) (Or.inl ⟨by rfl, ?_⟩) hHeld ?_ ?_
   rotate_left
   ·rintro w' ⟨s0, s1⟩
    go_simp
    first | with_reducible rfl | rfl
   rotate_left
   ·simp only [Act.put, List.setIfInBounds_toArray, List.set_cons_zero, List.set_cons_succ, i64_w, i32_w]
    rfl
   refine one_ (i := 7) (N := some 63) #[true, true, true, true, true, true, true, true, false, false, false, false] rfl rfl (one_of HT_.out (by kernel_rfl)) (by decide) (fun K hK => ?_)
   refine value_ (w1 := ?_) (v := ?_) (by rfl) rfl ?_ ?_
   rotate_left 2
   ·go_simp
    constructor
    ·rfl
    ·rfl
   refine hK.out _ _ ⟨(blk_cell (blk_alloc FE.out.qB _) 0).trans rfl, (blk_cell (blk_alloc FE.out.gB _) 1).trans rfl⟩ (fun hHeld => ?_)
   clear hK K
   refine norm_ (a' := ?_) ?_ ?_
   rotate_left
   ·show Act.put _ (some 63) _ = _
    simp only [Act.put, List.setIfInBounds_toArray, List.set_cons_zero, List.set_cons_succ, i64_w, i32_w]
    rfl
   refine one_ (i := 8) (N := some 64) #[true, true, true, true, true, true, true, true, true, false, false, false] rfl rfl (one_of HT_.out (by kernel_rfl)) (by decide) (fun K hK => ?_)
   refine Kd.R_append_step (Kd.raw 1) (w0 := w) w.heap.size (by rfl) (.tmp 60) (.tmp 63) 94 105 .nilIface 16 rfl Try.underlying94 info105 rfl (by decide) (by omega) (.slice Av vals.length cv) vals [.iface 118 (.slice A0 t.length c0)] [.iface 118 (.slice A0 t.length c0)] (fun _ => True) (fun _ => False) rfl rfl ?aP (fun _ hk => hk.elim) ?aF ?aO ?aB ?aS ?aL ?_
   (case aP => exact ⟨rfl, rfl, fun u hu => by rw [List.mem_singleton.1 hu]; rfl⟩)
   (case aB => exact FE.out.hB)
   (case aF => exact (fun _ _ => trivial))
   (case aO => exact FE.out.hL)
   (case aS => exact FE.out.hB.size)
   (case aL => have := FE.out.len; have := HJL.out; have := HN.out; omega)
   intro v9 w9 ho hb hg hat
   have hm := FE.out.more (A := A0) (c := c0) hb hg (by rw [HTT.out]; exact ho) (by rw [HTT.out]; exact HC0.out) (by rw [HTT.out]; exact HC.out) HOK.out
   rw [HTT.out] at hm
   obtain ⟨vs2, hv2⟩ : ∃ vs2 : List (List Value), vals ++ [[.iface 118 (.slice A0 t.length c0)]] = vs2 := ⟨_, rfl⟩
   rw [hv2] at ho hm
   clear hv2
   have hqB := blk_grown FE.out.qB hg (Kd.R_ne FE.out.hL FE.out.qB (by decide))
   obtain ⟨Ao, co, eo⟩ := Kd.R_slice ho
   subst eo
   have HM1 := Aside0.mk hm.1
   have HM2 := Aside0.mk hm.2
   have HQ9 := Aside0.mk hqB
   clear FE hm hqB ho hb hg hat
   refine hK.out _ _ ⟨(blk_cell HQ9.out 0).trans rfl, (blk_cell HM1.out 1).trans rfl⟩ (fun hHeld => ?_)
   clear hK K
   refine norm_ (a' := ?_) ?_ ?_
   rotate_left
   ·show Act.put _ (some 64) _ = _
    simp only [Act.put, List.setIfInBounds_toArray, List.set_cons_zero, List.set_cons_succ, i64_w, i32_w]
    rfl
   refine pure_ (i := 9) (N := some 65) (v := ?_) (a' := ?_) #[true, true, true, true, true, true, true, true, true, true, false, false] rfl rfl (any_of HT_.out (by kernel_rfl)) (fun _ _ _ h => h) (Or.inl ⟨by rfl, ?_⟩) ?_ ?_
   rotate_left
   ·intro w'
    go_simp
    first | with_reducible rfl | rfl
   rotate_left
   ·simp only [Act.put, List.setIfInBounds_toArray, List.set_cons_zero, List.set_cons_succ, i64_w, i32_w]
    rfl
   refine pure_ (i := 10) (N := some 66) (v := ?_) (a' := ?_) #[true, true, true, true, true, true, true, true, true, true, true, false] rfl rfl (any_of HT_.out (by kernel_rfl)) (fun _ _ _ h => h) (Or.inl ⟨by rfl, ?_⟩) ?_ ?_
   rotate_left
   ·intro w'
    go_simp
    first | with_reducible rfl | rfl
   rotate_left
   ·simp only [Act.put, List.setIfInBounds_toArray, List.set_cons_zero, List.set_cons_succ, i64_w, i32_w]
    rfl
   refine last_ (i := 11) (N := none) #[true, true, true, true, true, true, true, true, true, true, true, true] rfl rfl (one_of HT_.out (by kernel_rfl)) (by decide) (fun K hK => ?_)
   have hs := (blk_cell HM1.out 1).trans rfl
   have hfs := blk_frozen HM1.out 1
   refine skip_ (w1 := ?_) (by rfl) rfl ?_ ?_
   rotate_left
   ·go_simp
    rfl
   refine hK.out _ _ ?_
   clear hK K
   refine done_ (done_of HT_.out (by kernel_rfl)) ?_
   try go_wp2
   go_roundg k1
   case measure => omega
   case rel => exact ⟨j + 1, _, _, val_succ j (by have := HJL.out; have := HN.out; omega), ⟨by have := HJ.out; omega⟩, HM2⟩
end Go.Proofs.Ytjgbdicbdlollaa.B
namespace Go.Proofs.Ytjgbdicbdlollaa.B
open Go.RowKit Go.Proofs.YtjgbdicbdlollaaW.PrintWords Go.Proofs.YtjgbdicbdlollaaW.PrintLast Go.Proofs.YtjgbdicbdlollaaW.PrintMore
set_option linter.unusedVariables false
set_option linter.unusedSimpArgs false
/-- A choice that played takes. -/
def choiceOk (R : List (List Int)) (c : List Int) : Bool := decide (c.length = R.length) && (List.range c.length).all fun i : Nat => decide (0 ≤ rd c (i : Int)) && decide (rd c (i : Int) < ((rd_L12 R (i : Int)).length : Int))
def playOk (R T : List (List Int)) (c : List Int) : Bool := readOk R T && choiceOk R c
theorem read_ok (Ar : Option Addr) (cr : Nat) (R : List (List Int)) (At : Option Addr) (ct : Nat) (T : List (List Int)) (w : World) (hrR : Kd.C (Kd.slice 3 (Kd.int .i64)) w Ar R.length R) (hcR : R.length ≤ cr) (hrT : Kd.C (Kd.slice 3 (Kd.int .i64)) w At T.length T) (hcT : T.length ≤ ct) (h : readOk R T = true) :
    Calls Try.prog 58 #[.agg #[.slice Ar R.length cr, .slice At T.length ct]] w fun e w' => ∃ g, e = .returned (.tuple #[.pointer (some ⟨g, 0, none⟩), .bool true]) ∧ w.heap.size ≤ g ∧ Gm w' g R T ∧ Below w.heap.size w w' := by
  refine (read_calls Ar cr R At ct T w hrR hcR hrT hcT).mono fun e w' hh => ?_
  rcases hh with ⟨_, hh⟩ | ⟨h1, _⟩
  · exact hh
  · rw [h] at h1; cases h1
theorem read_err (Ar : Option Addr) (cr : Nat) (R : List (List Int)) (At : Option Addr) (ct : Nat) (T : List (List Int)) (w : World) (hrR : Kd.C (Kd.slice 3 (Kd.int .i64)) w Ar R.length R) (hcR : R.length ≤ cr) (hrT : Kd.C (Kd.slice 3 (Kd.int .i64)) w At T.length T) (hcT : T.length ≤ ct) (h : readOk R T = false) :
    Calls Try.prog 58 #[.agg #[.slice Ar R.length cr, .slice At T.length ct]] w fun e w' => e = .returned (.tuple #[.pointer none, .bool false]) ∧ Below w.heap.size w w' := by
  refine (read_calls Ar cr R At ct T w hrR hcR hrT hcT).mono fun e w' hh => ?_
  rcases hh with ⟨h1, _⟩ | ⟨_, hh⟩
  · rw [h] at h1; cases h1
  · exact hh
set_option maxHeartbeats 8000000 in
set_option maxRecDepth 100000 in
theorem played_calls (Ar : Option Addr) (cr : Nat) (R : List (List Int)) (At : Option Addr) (ct : Nat) (T : List (List Int)) (A : Option Addr) (c : Nat) (l : List Int) (w : World) (hrR : Kd.C (Kd.slice 3 (Kd.int .i64)) w Ar R.length R) (hcR : R.length ≤ cr) (hrT : Kd.C (Kd.slice 3 (Kd.int .i64)) w At T.length T) (hcT : T.length ≤ ct) (hr : Kd.C (Kd.int .i64) w A l.length l) (hc : l.length ≤ c) :
  Calls Try.prog 63 #[.agg #[.slice Ar R.length cr, .slice At T.length ct], .slice A l.length c] w fun e w' => (playOk R T l = true ∧ ∃ g, e = .returned (.tuple #[.pointer (some ⟨g, 0, none⟩), .int .i64 0]) ∧ Gm w' g R T ∧ Below w.heap.size w w') ∨
   (playOk R T l = false ∧ e = .returned (.tuple #[.pointer none, .int .i64 2]) ∧ Below w.heap.size w w') := by
 have hu41 := Try.underlying41
 have HRR := Aside0.mk hrR
 have HCR := Aside0.mk hcR
 have HRT := Aside0.mk hrT
 have HCT := Aside0.mk hcT
 have HRL := Aside0.mk hr
 clear hrR hcR hrT hcT hr
 have HB := Aside0.mk (Below.refl w.heap.size w)
 rcases hrd : readOk R T with _ | _
 case false =>
  have HRX := Aside0.mk (show playOk R T l = false by unfold playOk; rw [hrd, Bool.false_and])
  have HRD := Aside0.mk hrd
  clear hrd
  go_enter Try.func63, Try.ntmps63
  go_wp2_with (first | ((with_reducible refine gate_dst (N := 2) rfl ?_); refine box_event ?hg (N := 2) ?hd (cs := #[.slice Ar R.length cr, .slice At T.length ct]) (t := 41) ?hr ?_; (case hd => rfl); (case hg => rfl); (case hr => first | (go_simp; done) | (go_simp; rfl)); intro gb hg w1 hbox hb; have BB := Aside0.mk hbox; have GB := Aside0.mk (show w.heap.size ≤ gb by rw [hg]; exact Nat.le_refl _); clear HB; have HB := Aside0.mk hb; clear hg hbox hb; have hb_0 : w1.cell? ⟨gb, 0, none⟩ = some (.slice Ar R.length cr) := (blk_cell BB.out 0).trans rfl; have hb_1 : w1.cell? ⟨gb, 1, none⟩ = some (.slice At T.length ct) := (blk_cell BB.out 1).trans rfl) | (go_at_call 58; (refine (read_err Ar cr R At ct T _ (Kd.C_below HRR.out HB.out) HCR.out (Kd.C_below HRT.out HB.out) HCT.out HRD.out).mono ?_); rintro e w2 ⟨rfl, hb⟩; have n0_ := Aside0.mk (below_step HB.out hb); clear HB hb hb_0 hb_1; have HB := n0_; clear n0_))
  go_ret2
  exact .inr ⟨HRX.out, by first | rfl | (simp; done), HB.out⟩
 case true =>
  have HRD := Aside0.mk hrd
  have HPO := Aside0.mk (show playOk R T l = choiceOk R l by unfold playOk; rw [hrd, Bool.true_and])
  have HN := Aside0.mk (show R.length ≤ 5 by have h_ := hrd; unfold readOk at h_; simp only [Bool.and_eq_true, decide_eq_true_eq] at h_; exact h_.1.1.1.1.2)
  clear hrd
  go_enter Try.func63, Try.ntmps63
  by_cases c1 : l.length = R.length
  case neg =>
   have c1b : ((l.length : Int) == (R.length : Int)) = false := beq_eq_false_iff_ne.mpr (by omega)
   have c1c : ((l.length : Int) != (R.length : Int)) = true := bne_iff_ne.mpr (by omega)
   have c1d : (l.length == R.length) = false := beq_eq_false_iff_ne.mpr c1
   have c1e : (l.length != R.length) = true := bne_iff_ne.mpr c1
   have c1f : decide (l.length = R.length) = false := decide_eq_false c1
   have HRX := Aside0.mk (show playOk R T l = false by rw [HPO.out]; unfold choiceOk; rw [c1f, Bool.false_and])
   clear c1
   go_wp2_with (first | ((with_reducible refine gate_dst (N := 2) rfl ?_); refine box_event ?hg (N := 2) ?hd (cs := #[.slice Ar R.length cr, .slice At T.length ct]) (t := 41) ?hr ?_; (case hd => rfl); (case hg => rfl); (case hr => first | (go_simp; done) | (go_simp; rfl)); intro gb hg w1 hbox hb; have BB := Aside0.mk hbox; have GB := Aside0.mk (show w.heap.size ≤ gb by rw [hg]; exact Nat.le_refl _); clear HB; have HB := Aside0.mk hb; clear hg hbox hb; have hb_0 : w1.cell? ⟨gb, 0, none⟩ = some (.slice Ar R.length cr) := (blk_cell BB.out 0).trans rfl; have hb_1 : w1.cell? ⟨gb, 1, none⟩ = some (.slice At T.length ct) := (blk_cell BB.out 1).trans rfl) | (go_at_call 58; (refine (read_ok Ar cr R At ct T _ (Kd.C_below HRR.out HB.out) HCR.out (Kd.C_below HRT.out HB.out) HCT.out HRD.out).mono ?_); rintro e w2 ⟨g, rfl, hg, hG, hb⟩; have GM := Aside0.mk hG; have n0_ := Aside0.mk (below_step HB.out hb); have n1_ := Aside0.mk (blk_below BB.out hb); clear HB BB hb hg hG hb_0 hb_1; have HB := n0_; have BB := n1_; clear n0_ n1_; have hb_0 : w2.cell? ⟨gb, 0, none⟩ = some (.slice Ar R.length cr) := (blk_cell BB.out 0).trans rfl; have hb_1 : w2.cell? ⟨gb, 1, none⟩ = some (.slice At T.length ct) := (blk_cell BB.out 1).trans rfl))
   go_ret2
   exact .inr ⟨HRX.out, by first | rfl | (simp; done), HB.out⟩
  have c1b : ((l.length : Int) == (R.length : Int)) = true := beq_iff_eq.mpr (by omega)
  have c1c : ((l.length : Int) != (R.length : Int)) = false := bne_eq_false_iff_eq.mpr (by omega)
  have c1d : (l.length == R.length) = true := beq_iff_eq.mpr c1
  have c1e : (l.length != R.length) = false := bne_eq_false_iff_eq.mpr c1
  have c1f : decide (l.length = R.length) = true := decide_eq_true c1
  have HLN := Aside0.mk c1
  clear c1
  go_wp2_with (first | ((with_reducible refine gate_dst (N := 2) rfl ?_); refine box_event ?hg (N := 2) ?hd (cs := #[.slice Ar R.length cr, .slice At T.length ct]) (t := 41) ?hr ?_; (case hd => rfl); (case hg => rfl); (case hr => first | (go_simp; done) | (go_simp; rfl)); intro gb hg w1 hbox hb; have BB := Aside0.mk hbox; have GB := Aside0.mk (show w.heap.size ≤ gb by rw [hg]; exact Nat.le_refl _); clear HB; have HB := Aside0.mk hb; clear hg hbox hb; have hb_0 : w1.cell? ⟨gb, 0, none⟩ = some (.slice Ar R.length cr) := (blk_cell BB.out 0).trans rfl; have hb_1 : w1.cell? ⟨gb, 1, none⟩ = some (.slice At T.length ct) := (blk_cell BB.out 1).trans rfl) | (go_at_call 58; (refine (read_ok Ar cr R At ct T _ (Kd.C_below HRR.out HB.out) HCR.out (Kd.C_below HRT.out HB.out) HCT.out HRD.out).mono ?_); rintro e w2 ⟨g, rfl, hg, hG, hb⟩; have GM := Aside0.mk hG; have n0_ := Aside0.mk (below_step HB.out hb); have n1_ := Aside0.mk (blk_below BB.out hb); clear HB BB hb hg hG hb_0 hb_1; have HB := n0_; have BB := n1_; clear n0_ n1_; have hb_0 : w2.cell? ⟨gb, 0, none⟩ = some (.slice Ar R.length cr) := (blk_cell BB.out 0).trans rfl; have hb_1 : w2.cell? ⟨gb, 1, none⟩ = some (.slice At T.length ct) := (blk_cell BB.out 1).trans rfl))
  go_loopg [27] l.length (fun kq v27 w' => ∃ i : Nat, v27 = .int .i64 (i : Int) ∧ Aside0 (i + kq = l.length) ∧ Aside0 (∀ a : Nat, a < i → (decide (0 ≤ rd l (a : Int)) && decide (rd l (a : Int) < ((rd_L12 R (a : Int)).length : Int))) = true) ∧ Aside0 (w'.heap[gb]? = some (.cells #[.slice Ar R.length cr, .slice At T.length ct] 41 (0, 0))) ∧ Aside0 (Gm w' g R T) ∧ Aside0 (Below w.heap.size w w'))
  case atStart => exact ⟨0, rfl, ⟨by simp⟩, ⟨fun a h => absurd h (Nat.not_lt_zero _)⟩, BB, GM, HB⟩
  case round =>
   clear BB GM HB hb_0 hb_1
   obtain ⟨i, rfl, HI, HA, BB, GM, HB⟩ := hrel
   have hb_0 : wr.cell? ⟨gb, 0, none⟩ = some (.slice Ar R.length cr) := (blk_cell BB.out 0).trans rfl
   have hb_1 : wr.cell? ⟨gb, 1, none⟩ = some (.slice At T.length ct) := (blk_cell BB.out 1).trans rfl
   cases gk with
   | zero =>
    have hi := HI.out
    have c4b : decide ((i : Int) < (l.length : Int)) = false := decide_eq_false (by omega)
    have c4b2 : decide (i < l.length) = false := decide_eq_false (by omega)
    have HRX := Aside0.mk (show playOk R T l = true by rw [HPO.out]; unfold choiceOk; rw [c1f, Bool.true_and, List.all_eq_true]; intro a ha; rw [List.mem_range] at ha; exact HA.out a (by omega))
    clear hi
    go_wp2
    go_ret2
    exact .inl ⟨HRX.out, g, by first | rfl | (simp; done), GM.out, HB.out⟩
   | succ k1 =>
    have hi0 : (0 : Int) ≤ (i : Int) := Int.natCast_nonneg _
    have hi1 : (i : Int) < (l.length : Int) := by have := HI.out; omega
    have hi3 : (i : Int) < (R.length : Int) := by have := HLN.out; omega
    have c4b : decide ((i : Int) < (l.length : Int)) = true := decide_eq_true hi1
    have c4b2 : decide (i < l.length) = true := decide_eq_true (by omega)
    have hi2 : (i < l.length) = True := eq_true (by omega)
    have hi4 : (i < R.length) = True := eq_true (by omega)
    have HIL := Aside0.mk (show i < l.length by have := HI.out; omega)
    obtain ⟨ad, e, hx⟩ := Kd.at_int HRL.out (i : Int) hi0 hi1
    cases e
    obtain ⟨ad2, A0, c0, e, hy, hc0, hC⟩ := at_L12 HRR.out (i : Int) hi0 hi3
    cases e
    simp only [Int.toNat_natCast] at hx hy
    replace hx := (HB.out.cell (World.block_lt_of_cell? w _ hx)).trans hx
    replace hy := (HB.out.cell (World.block_lt_of_cell? w _ hy)).trans hy
    clear hC hc0
    obtain ⟨x, hxx⟩ : ∃ x, rd l (i : Int) = x := ⟨_, rfl⟩
    obtain ⟨m, hm⟩ : ∃ m, (rd_L12 R (i : Int)).length = m := ⟨_, rfl⟩
    rw [hxx] at hx
    rw [hm] at hy
    have HX := Aside0.mk hxx
    have HM := Aside0.mk hm
    clear hxx hm
    replace hi0 := eq_true hi0
    replace hi1 := eq_true hi1
    replace hi3 := eq_true hi3
    by_cases d1 : x < 0
    case pos =>
     have d1b : decide (x < 0) = true := decide_eq_true d1
     have HRX := Aside0.mk (show playOk R T l = false by rw [HPO.out]; unfold choiceOk; rw [show (List.range l.length).all _ = false from List.all_eq_false.2 ⟨i, List.mem_range.2 HIL.out, by rw [HX.out, decide_eq_false (show ¬ 0 ≤ x by omega)]; simp⟩, Bool.and_false])
     clear d1
     go_wp2
     go_ret2
     exact .inr ⟨HRX.out, by first | rfl | (simp; done), HB.out⟩
    have d1b : decide (x < 0) = false := decide_eq_false d1
    by_cases d2 : (m : Int) ≤ x
    case pos =>
     have d2b : decide ((m : Int) ≤ x) = true := decide_eq_true d2
     have HRX := Aside0.mk (show playOk R T l = false by rw [HPO.out]; unfold choiceOk; rw [show (List.range l.length).all _ = false from List.all_eq_false.2 ⟨i, List.mem_range.2 HIL.out, by rw [HX.out, HM.out, decide_eq_false (show ¬ x < (m : Int) by omega)]; simp⟩, Bool.and_false])
     clear d1 d2
     go_wp2
     go_ret2
     exact .inr ⟨HRX.out, by first | rfl | (simp; done), HB.out⟩
    have d2b : decide ((m : Int) ≤ x) = false := decide_eq_false d2
    have HD := Aside0.mk (show (decide (0 ≤ rd l (i : Int)) && decide (rd l (i : Int) < ((rd_L12 R (i : Int)).length : Int))) = true by rw [HX.out, HM.out, decide_eq_true (show 0 ≤ x by omega), decide_eq_true (show x < (m : Int) by omega)]; rfl)
    clear d1 d2
    go_wp2
    go_roundg k1
    case measure => omega
    case rel => exact ⟨i + 1, val_succ i (by have := HIL.out; have := HLN.out; have := HN.out; omega), ⟨by have := HI.out; omega⟩, ⟨fun a ha => by rcases Nat.lt_or_ge a i with h | h; exact HA.out a h; (have : a = i := by omega); rw [this]; exact HD.out⟩, BB, GM, HB⟩
end Go.Proofs.Ytjgbdicbdlollaa.B
namespace Go.Proofs.Ytjgbdicbdlollaa.B
open Go.RowKit Go.Proofs.YtjgbdicbdlollaaW.PrintWords Go.Proofs.YtjgbdicbdlollaaW.PrintLast Go.Proofs.YtjgbdicbdlollaaW.PrintMore
set_option linter.unusedVariables false
set_option linter.unusedSimpArgs false
/-- The places as_ a print sees them: as_ many cells as_ there are tolls. -/
abbrev unitsOf (T : List (List Int)) : List Unit := List.replicate T.length ()
def jam_Costs.f (k : Nat) (R T : List (List Int)) (l : List Int) : Option (List Int × Int × Int) :=
  if playOk R T l = true then (jam_game_costs.f k R (unitsOf T) (payF T) l).bind fun r => some (r.1, r.2, 0) else some ([], 0, 2)
theorem jam_Costs.mono : ∀ R T l k, LeO (jam_Costs.f k R T l) (jam_Costs.f (k + 1) R T l) := by
  intro R T l k
  unfold jam_Costs.f
  exact LeO.ite (LeO.bind (jam_game_costs.mono _ _ _ _ k) fun r => LeO.refl _) (LeO.refl _)
theorem played_ok (A0_0 : Option Addr) (c0_0 : Nat) (l0_0 : List (List Int)) (A0_1 : Option Addr) (c0_1 : Nat) (l0_1 : List (List Int)) (A1 : Option Addr) (c1 : Nat) (l1 : List Int) (w : World) (hr0_0 : Kd.C (Kd.slice 3 (Kd.int .i64)) w A0_0 l0_0.length l0_0) (hc0_0 : l0_0.length ≤ c0_0) (hr0_1 : Kd.C (Kd.slice 3 (Kd.int .i64)) w A0_1 l0_1.length l0_1) (hc0_1 : l0_1.length ≤ c0_1) (hr1 : Kd.C (Kd.int .i64) w A1 l1.length l1) (hc1 : l1.length ≤ c1) (h : playOk l0_0 l0_1 l1 = true) :
    Calls Try.prog 63 #[.agg #[.slice A0_0 l0_0.length c0_0, .slice A0_1 l0_1.length c0_1], .slice A1 l1.length c1] w fun e w' => ∃ g, e = .returned (.tuple #[.pointer (some ⟨g, 0, none⟩), .int .i64 0]) ∧ Gm w' g l0_0 l0_1 ∧ Below w.heap.size w w' := by
  refine (played_calls A0_0 c0_0 l0_0 A0_1 c0_1 l0_1 A1 c1 l1 w hr0_0 hc0_0 hr0_1 hc0_1 hr1 hc1).mono fun e w' hh => ?_
  rcases hh with ⟨_, hh⟩ | ⟨h1, _⟩
  · exact hh
  · rw [h] at h1; cases h1
theorem played_err (A0_0 : Option Addr) (c0_0 : Nat) (l0_0 : List (List Int)) (A0_1 : Option Addr) (c0_1 : Nat) (l0_1 : List (List Int)) (A1 : Option Addr) (c1 : Nat) (l1 : List Int) (w : World) (hr0_0 : Kd.C (Kd.slice 3 (Kd.int .i64)) w A0_0 l0_0.length l0_0) (hc0_0 : l0_0.length ≤ c0_0) (hr0_1 : Kd.C (Kd.slice 3 (Kd.int .i64)) w A0_1 l0_1.length l0_1) (hc0_1 : l0_1.length ≤ c0_1) (hr1 : Kd.C (Kd.int .i64) w A1 l1.length l1) (hc1 : l1.length ≤ c1) (h : ¬ playOk l0_0 l0_1 l1 = true) :
    Calls Try.prog 63 #[.agg #[.slice A0_0 l0_0.length c0_0, .slice A0_1 l0_1.length c0_1], .slice A1 l1.length c1] w fun e w' => e = .returned (.tuple #[.pointer none, .int .i64 2]) ∧ Below w.heap.size w w' := by
  refine (played_calls A0_0 c0_0 l0_0 A0_1 c0_1 l0_1 A1 c1 l1 w hr0_0 hc0_0 hr0_1 hc0_1 hr1 hc1).mono fun e w' hh => ?_
  rcases hh with ⟨h1, _⟩ | ⟨_, hh⟩
  · exact absurd h1 h
  · exact hh
set_option maxHeartbeats 8000000 in
set_option maxRecDepth 100000 in
theorem jam_Costs.calls (k : Nat) (A0_0 : Option Addr) (c0_0 : Nat) (l0_0 : List (List Int)) (A0_1 : Option Addr) (c0_1 : Nat) (l0_1 : List (List Int)) (A1 : Option Addr) (c1 : Nat) (l1 : List Int) (r1 : List Int) (r2 : Int) (r3 : Int) (w : World) (hr0_0 : Kd.C (Kd.slice 3 (Kd.int .i64)) w A0_0 l0_0.length l0_0) (hc0_0 : l0_0.length ≤ c0_0) (hr0_1 : Kd.C (Kd.slice 3 (Kd.int .i64)) w A0_1 l0_1.length l0_1) (hc0_1 : l0_1.length ≤ c0_1) (hr1 : Kd.C (Kd.int .i64) w A1 l1.length l1) (hc1 : l1.length ≤ c1) (h : jam_Costs.f k l0_0 l0_1 l1 = some (r1, r2, r3)) :
  Calls Try.prog 28 #[.agg #[.slice A0_0 l0_0.length c0_0, .slice A0_1 l0_1.length c0_1], .slice A1 l1.length c1] w fun e w' => ∃ v0_ : Value, e = .returned (.tuple #[v0_, .int .i64 r2, .int .i64 r3]) ∧ Kd.R (Kd.int .i64) 3 w' w.heap.size (fun _ => True) v0_ r1 ∧ Below w.heap.size w w' := by
 have hu41 := Try.underlying41
 have HR0 := Aside0.mk hr0_0
 have HC0 := Aside0.mk hc0_0
 have HR1 := Aside0.mk hr0_1
 have HC1 := Aside0.mk hc0_1
 have HRL := Aside0.mk hr1
 have HCL := Aside0.mk hc1
 clear hr0_0 hc0_0 hr0_1 hc0_1 hr1 hc1
 have HB := Aside0.mk (Below.refl w.heap.size w)
 have qT : ∀ (w : World) (a : Option Addr) (n c n' c' : Nat), (binOp .eql 24 (.slice a n c) (.slice none n' c')).run Try.prog w = .ok (.bool a.isNone) w := fun w a n c n' c' => Lib.run_eql_slice_nil w _ _ a n c n' c' Try.underlying24
 have qN : ∀ (w : World) (a : Option Addr) (n c n' c' : Nat), (binOp .neq 24 (.slice a n c) (.slice none n' c')).run Try.prog w = .ok (.bool (!a.isNone)) w := fun w a n c n' c' => run_neq_slice_nil_any w _ _ a n c n' c' Try.underlying24
 unfold jam_Costs.f at h
 by_cases hp : playOk l0_0 l0_1 l1 = true
 case neg =>
  rw [if_neg hp] at h
  have HPO := Aside0.mk hp
  clear hp
  simp only [Option.some.injEq, Prod.mk.injEq] at h
  obtain ⟨rfl, rfl, rfl⟩ := h
  go_enter Try.func28, Try.ntmps28
  go_wp2_with (first | ((with_reducible refine gate_dst (N := 2) rfl ?_); refine box_event ?hg (N := 2) ?hd (cs := #[.slice A0_0 l0_0.length c0_0, .slice A0_1 l0_1.length c0_1]) (t := 41) ?hr ?_; (case hd => rfl); (case hg => rfl); (case hr => first | (go_simp; done) | (go_simp; rfl)); intro gb hg w1 hbox hb; have BB := Aside0.mk hbox; clear HB; have HB := Aside0.mk hb; clear hg hbox hb; have hb_0 : w1.cell? ⟨gb, 0, none⟩ = some (.slice A0_0 l0_0.length c0_0) := (blk_cell BB.out 0).trans rfl; have hb_1 : w1.cell? ⟨gb, 1, none⟩ = some (.slice A0_1 l0_1.length c0_1) := (blk_cell BB.out 1).trans rfl) | (go_at_call 63; (refine (played_err A0_0 c0_0 l0_0 A0_1 c0_1 l0_1 A1 c1 l1 _ (Kd.C_below HR0.out HB.out) HC0.out (Kd.C_below HR1.out HB.out) HC1.out (Kd.C_below HRL.out HB.out) HCL.out HPO.out).mono ?_); rintro e w2 ⟨rfl, hb⟩; have n0_ := Aside0.mk (below_step HB.out hb); clear HB BB hb hb_0 hb_1; have HB := n0_; clear n0_))
  go_ret3
  exact ⟨_, by first | rfl | (simp; done), Kd.R_nil _ _ _ _ _, HB.out⟩
 rw [if_pos hp] at h
 have HPO := Aside0.mk hp
 clear hp
 obtain ⟨⟨x1, x2⟩, hx, h⟩ := Option.bind_eq_some_iff.1 h
 have HX := Aside0.mk hx
 clear hx
 simp only [Option.some.injEq, Prod.mk.injEq] at h
 obtain ⟨rfl, rfl, rfl⟩ := h
 go_enter Try.func28, Try.ntmps28
 go_wp2_with (first | ((with_reducible refine gate_dst (N := 2) rfl ?_); refine box_event ?hg (N := 2) ?hd (cs := #[.slice A0_0 l0_0.length c0_0, .slice A0_1 l0_1.length c0_1]) (t := 41) ?hr ?_; (case hd => rfl); (case hg => rfl); (case hr => first | (go_simp; done) | (go_simp; rfl)); intro gb hg w1 hbox hb; have BB := Aside0.mk hbox; clear HB; have HB := Aside0.mk hb; clear hg hbox hb; have hb_0 : w1.cell? ⟨gb, 0, none⟩ = some (.slice A0_0 l0_0.length c0_0) := (blk_cell BB.out 0).trans rfl; have hb_1 : w1.cell? ⟨gb, 1, none⟩ = some (.slice A0_1 l0_1.length c0_1) := (blk_cell BB.out 1).trans rfl) | (go_at_call 63; (refine (played_ok A0_0 c0_0 l0_0 A0_1 c0_1 l0_1 A1 c1 l1 _ (Kd.C_below HR0.out HB.out) HC0.out (Kd.C_below HR1.out HB.out) HC1.out (Kd.C_below HRL.out HB.out) HCL.out HPO.out).mono ?_); rintro e w2 ⟨g, rfl, hG, hb⟩; have GM := Aside0.mk hG; have n0_ := Aside0.mk (below_step HB.out hb); clear HB BB hb hG hb_0 hb_1; have HB := n0_; clear n0_) | (go_at_call 61; (refine (costs_g k g l0_0 l0_1 A1 c1 l1 x1 x2 _ GM.out (Kd.C_below HRL.out HB.out) HCL.out HX.out).mono ?_); rintro e w3 ⟨v1, rfl, ho, hb⟩; have HO := Aside0.mk (Kd.R_lower ho (below_size HB.out)); have n0_ := Aside0.mk (below_step HB.out hb); clear HB ho hb; have HB := n0_; clear n0_))
 go_ret3
 exact ⟨_, by first | rfl | (simp; done), HO.out, HB.out⟩
end Go.Proofs.Ytjgbdicbdlollaa.B
namespace Go.Proofs.Ytjgbdicbdlollaa.B
open Go.RowKit Go.Proofs.YtjgbdicbdlollaaW.PrintWords Go.Proofs.YtjgbdicbdlollaaW.PrintLast Go.Proofs.YtjgbdicbdlollaaW.PrintMore
set_option linter.unusedVariables false
set_option linter.unusedSimpArgs false
attribute [local go_sem] run_store_func
/-- The middle blocks, from n1 on and below N0, stay (what a visitor does). -/
structure Mid (n1 N0 : Nat) (W W' : World) : Prop where
  size : W.heap.size ≤ W'.heap.size
  blk : ∀ k, n1 ≤ k → k < N0 → W'.heap[k]? = W.heap[k]?
/-- Nothing but middle blocks has changed (what all does by itself). -/
structure Side (n1 N0 : Nat) (W W' : World) : Prop where
  os : W'.os = W.os
  tape : W'.tape = W.tape
  output : W'.output = W.output
  size : W.heap.size ≤ W'.heap.size
  blk : ∀ k, k < W.heap.size → (k < n1 ∨ N0 ≤ k) → W'.heap[k]? = W.heap[k]?
/-- The routes of driver i, one after the other. -/
def onLoop {σ : Type} (F : List Int → σ → Option (List Int × σ)) (i : Nat) : Nat → Nat → List Int → σ → Option (List Int × σ)
  | 0, _, ch, s => some (ch, s)
  | m + 1, r, ch, s => (F (ch.set i (r : Int)) s).bind fun q => onLoop F i m (r + 1) q.1 q.2
/-- All choices that begin as_ ch does up to i. -/
def onF {σ : Type} (R : List (List Int)) (vis : σ → List Int → Option σ) : Nat → Nat → List Int → σ → Option (List Int × σ)
  | 0, _, ch, s => (vis s ch).bind fun s2 => some (ch, s2)
  | f + 1, i, ch, s => onLoop (fun c t => onF R vis f (i + 1) c t) i (rd_L12 R (i : Int)).length 0 ch s
theorem onLoop_mono {σ : Type} {F G : List Int → σ → Option (List Int × σ)} (h : ∀ c t, LeO (F c t) (G c t)) (i : Nat) : ∀ m r ch s, LeO (onLoop F i m r ch s) (onLoop G i m r ch s)
  | 0, _, _, _ => LeO.refl _
  | m + 1, r, ch, s => LeO.bind (h _ _) fun q => onLoop_mono h i m _ _ _
theorem onF_mono {σ : Type} (R : List (List Int)) {vis vis2 : σ → List Int → Option σ} (h : ∀ s c, LeO (vis s c) (vis2 s c)) : ∀ f i ch s, LeO (onF R vis f i ch s) (onF R vis2 f i ch s)
  | 0, _, _, _ => LeO.bind (h _ _) fun _ => LeO.refl _
  | f + 1, i, ch, s => onLoop_mono (fun c t => onF_mono R h f (i + 1) c t) i _ _ _ _
/-- all's own blocks. -/
structure AEnv (W : World) (n1 N0 b4 b3 b2 b5 gc cp n g : Nat) (v : Value) (ch : List Int) : Prop where
  c4 : W.heap[b4]? = some (.cells #[.slice (some ⟨gc, 0, none⟩) n cp] 24 (0, 0))
  c3 : W.heap[b3]? = some (.cells #[v] 89 (0, 0))
  c2 : W.heap[b2]? = some (.cells #[.pointer (some ⟨g, 0, none⟩)] 82 (0, 0))
  c5 : W.heap[b5]? = some (.cells #[.func (.func 91) #[] #[.pointer (some ⟨b4, 0, none⟩), .pointer (some ⟨b3, 0, none⟩), .pointer (some ⟨b2, 0, none⟩), .pointer (some ⟨b5, 0, none⟩)]] 119 (0, 0))
  row : Kd.R (Kd.int .i64) 3 W n1 (fun k => k = gc) (.slice (some ⟨gc, 0, none⟩) n cp) ch
  m4 : n1 ≤ b4 ∧ b4 < N0
  m3 : n1 ≤ b3 ∧ b3 < N0
  m2 : n1 ≤ b2 ∧ b2 < N0
  m5 : n1 ≤ b5 ∧ b5 < N0
  mc : n1 ≤ gc ∧ gc < N0
  big : N0 ≤ W.heap.size
section
variable {W W' : World} {n1 N0 b4 b3 b2 b5 gc cp n g : Nat} {v : Value} {ch : List Int}
theorem AEnv.mid (h : AEnv W n1 N0 b4 b3 b2 b5 gc cp n g v ch) (hm : Mid n1 N0 W W') : AEnv W' n1 N0 b4 b3 b2 b5 gc cp n g v ch :=
  ⟨(hm.blk _ h.m4.1 h.m4.2).trans h.c4, (hm.blk _ h.m3.1 h.m3.2).trans h.c3, (hm.blk _ h.m2.1 h.m2.2).trans h.c2, (hm.blk _ h.m5.1 h.m5.2).trans h.c5, Kd.R_step h.row (fun k hk _ => by subst hk; exact hm.blk _ h.mc.1 h.mc.2), h.m4, h.m3, h.m2, h.m5, h.mc, Nat.le_trans h.big hm.size⟩
theorem AEnv.set (h : AEnv W n1 N0 b4 b3 b2 b5 gc cp n g v ch) (i : Nat) (r : Int) : AEnv (W.setCell ⟨gc, i, none⟩ (.int .i64 r)) n1 N0 b4 b3 b2 b5 gc cp n g v (ch.set i r) := by
  have hp := Kd.R_putg h.row (i : Int) r
  simp only [Int.toNat_natCast] at hp
  refine ⟨blk_grown h.c4 hp.2 (Kd.R_ne h.row h.c4 (by decide)), blk_grown h.c3 hp.2 (Kd.R_ne h.row h.c3 (by decide)), blk_grown h.c2 hp.2 (Kd.R_ne h.row h.c2 (by decide)), blk_grown h.c5 hp.2 (Kd.R_ne h.row h.c5 (by decide)), hp.1, h.m4, h.m3, h.m2, h.m5, h.mc, Nat.le_trans h.big hp.2.size⟩
theorem AEnv.side (h : AEnv W n1 N0 b4 b3 b2 b5 gc cp n g v ch) (i : Nat) (r : Int) : Side n1 N0 W (W.setCell ⟨gc, i, none⟩ (.int .i64 r)) := by
  have hp := (Kd.R_putg h.row (i : Int) r).2
  simp only [Int.toNat_natCast] at hp
  refine ⟨hp.os, hp.tape, hp.output, hp.size, fun k hk hs => hp.block k hk (fun e => ?_)⟩
  injection e with e
  have := h.mc
  omega
end
section
variable {P : Program} {ops : Array Oper} {Q : Exit → Act → World → Prop}
/-- A call of a function value of one argument, as_ one step. -/
theorem goesV_ {rest : List Oper} {oi : Oper} {a : Act} {w : World} (N : Option Tmp) (hd : oi.dst = N) (hg : oi.guard = none) {f : FuncId} {caps : Array Value} {fn : Func} (hf : P.funcs[f]? = some fn) (hn : (fn.name == "runtime.NumGoroutine") = false) (hb : fn.body.isSome = true) {x y : Operand} {ts : Array TypeId}
    (hop : oi.op = .call { callee := .value x, args := #[y], argTypes := ts }) (hx : a.eval x = .func (.func f) #[] caps) {u : Value} (hy : a.eval y = u)
    (h : Calls P f (#[u] ++ caps) w fun e w' => ∃ v, e = .returned v ∧ wpList P ops Q rest (a.put N v) w') : wpList P ops Q (oi :: rest) a w := by
  refine wpList_plain hg fun K hK => ?_
  have he := enters_ hf hn hb (#[u] ++ caps) w
  have hrun : (execOp a.eval oi).run P w = .ok (.enter f (#[u] ++ caps)) w := by
    unfold execOp
    simp only [hop, resolve, Deferred.ofValue, invoke, hx, hy, List.map_toArray, List.map_cons, List.map_nil]
    simpa using he
  unfold Oper.wp
  rw [hrun, Oper.upon_enter]
  refine h.mono fun e w'' hh => ?_
  obtain ⟨v, rfl, hk⟩ := hh
  subst hd
  exact hK _ _ hk
end
set_option maxHeartbeats 8000000 in
set_option maxRecDepth 100000 in
theorem on_calls {σ : Type} (R T : List (List Int)) (n1 N0 b4 b3 b2 b5 gc cp g : Nat) (fv : FuncId) (caps : Array Value) (fn : Func) (hfn : Try.prog.funcs[fv]? = some fn) (hfn2 : (fn.name == "runtime.NumGoroutine") = false) (hfn3 : fn.body.isSome = true)
  (vis : σ → List Int → Option σ) (Inv : World → σ → Prop) (hgm : ∀ W s, Inv W s → Gm W g R T) (hstab : ∀ W W' s, Inv W s → Side n1 N0 W W' → Inv W' s)
  (hcall : ∀ W s s' A c l, N0 ≤ W.heap.size → Inv W s → Kd.C (Kd.int .i64) W A l.length l → l.length ≤ c → l.length = R.length → vis s l = some s' → Calls Try.prog fv (#[.slice A l.length c] ++ caps) W fun e W' => e = .returned (.tuple #[]) ∧ Inv W' s' ∧ Mid n1 N0 W W')
  (hR : R.length ≤ 5) (hRl : ∀ i, (rd_L12 R i).length ≤ 5) :
  ∀ (f i : Nat) (ch ch' : List Int) (s s' : σ) (W : World), i + f = R.length → ch.length = R.length → AEnv W n1 N0 b4 b3 b2 b5 gc cp R.length g (.func (.func fv) #[] caps) ch → Inv W s → onF R vis f i ch s = some (ch', s') →
   Calls Try.prog 91 #[.int .i64 (i : Int), .pointer (some ⟨b4, 0, none⟩), .pointer (some ⟨b3, 0, none⟩), .pointer (some ⟨b2, 0, none⟩), .pointer (some ⟨b5, 0, none⟩)] W fun e W' => e = .returned (.tuple #[]) ∧ AEnv W' n1 N0 b4 b3 b2 b5 gc cp R.length g (.func (.func fv) #[] caps) ch' ∧ ch'.length = R.length ∧ Inv W' s' := by
 intro f
 induction f with
 | zero =>
  intro i ch ch' s s' W hi hcl hE hI h
  unfold onF at h
  obtain ⟨s2, hs2, h⟩ := Option.bind_eq_some_iff.1 h
  simp only [Option.some.injEq, Prod.mk.injEq] at h
  obtain ⟨rfl, rfl⟩ := h
  obtain rfl : i = R.length := by omega
  have HV := Aside0.mk hs2
  have HE := Aside0.mk hE
  have HI := Aside0.mk hI
  have HCL := Aside0.mk hcl
  have h4 : W.cell? ⟨b4, 0, none⟩ = some (.slice (some ⟨gc, 0, none⟩) R.length cp) := (blk_cell hE.c4 0).trans rfl
  have h3 : W.cell? ⟨b3, 0, none⟩ = some (.func (.func fv) #[] caps) := (blk_cell hE.c3 0).trans rfl
  have c0 : ((R.length : Int) == (R.length : Int)) = true := beq_self_eq_true _
  have c0b : decide ((R.length : Int) = (R.length : Int)) = true := decide_eq_true rfl
  have HC := Aside0.mk hcall
  have HF := Aside0.mk hfn
  clear hs2 hE hI hcl hi hgm hstab hcall hR hRl hfn
  go_enter Try.func91, Try.ntmps91
  go_wp2_with (first | ((with_reducible refine gate_dst (N := 13) rfl ?_); refine goesV_ (some 13) rfl rfl HF.out hfn2 hfn3 rfl rfl (u := .slice (some ⟨gc, 0, none⟩) R.length cp) rfl ?_; rw [← HCL.out]; refine (HC.out W s s2 (some ⟨gc, 0, none⟩) cp ch HE.out.big HI.out (Kd.R_reads' HE.out.row).2.2 (by have := (Kd.R_reads' HE.out.row).2.1; rw [HCL.out]; exact this) HCL.out HV.out).mono ?_; rintro e w2 ⟨rfl, hi2, hm⟩; refine ⟨_, rfl, ?_⟩; rw [HCL.out]; have HI2 := Aside0.mk hi2; have HE2 := Aside0.mk (HE.out.mid hm); clear hi2 hm h4 h3))
  refine bodyPost_ret (results_none rfl _ _ _) rfl ?_
  first | exact ⟨HE2.out, HCL.out, HI2.out⟩ | exact ⟨by first | rfl | (simp; done), HE2.out, HCL.out, HI2.out⟩
 | succ f ih =>
  intro i ch ch' s s' W hi hcl hE hI h
  unfold onF at h
  have HH0 := Aside0.mk h
  have HE := Aside0.mk hE
  have HI := Aside0.mk hI
  have HCL := Aside0.mk hcl
  have HIH := Aside0.mk ih
  have HGM := Aside0.mk hgm
  have HST := Aside0.mk hstab
  have HFI := Aside0.mk hi
  have HR := Aside0.mk hR
  have HRL := Aside0.mk hRl
  obtain ⟨Ar, cr, Ap, cp2, q, g1, g2, g3, g4, g5, g6, g7⟩ := (hgm W s hI).ex
  have hg_0 : W.cell? ⟨g, 0, none⟩ = some (.slice Ar R.length cr) := (blk_cell g1 0).trans rfl
  have hi0 : (0 : Int) ≤ (i : Int) := Int.natCast_nonneg _
  have hi1 : (i : Int) < (R.length : Int) := by omega
  have hi2 : (i < R.length) = True := eq_true (by omega)
  obtain ⟨ad, A0, c0, e, hx, hc0, hC⟩ := at_L12 g3 (i : Int) hi0 hi1
  cases e
  simp only [Int.toNat_natCast] at hx
  clear g1 g2 g3 g4 g5 g6 g7 hc0 hC
  obtain ⟨m, hm⟩ : ∃ m, (rd_L12 R (i : Int)).length = m := ⟨_, rfl⟩
  have HM := Aside0.mk (show m ≤ 5 by rw [← hm]; exact hRl _)
  have HMM := Aside0.mk hm
  rw [hm] at hx
  have h4 : W.cell? ⟨b4, 0, none⟩ = some (.slice (some ⟨gc, 0, none⟩) R.length cp) := (blk_cell hE.c4 0).trans rfl
  have h2 : W.cell? ⟨b2, 0, none⟩ = some (.pointer (some ⟨g, 0, none⟩)) := (blk_cell hE.c2 0).trans rfl
  have e0 : ((i : Int) == (R.length : Int)) = false := beq_eq_false_iff_ne.mpr (by omega)
  have e0b : decide ((i : Int) = (R.length : Int)) = false := decide_eq_false (by omega)
  have e0c : (i == R.length) = false := beq_eq_false_iff_ne.mpr (by omega)
  have e0d : decide (i = R.length) = false := decide_eq_false (by omega)
  replace hi0 := eq_true hi0
  replace hi1 := eq_true hi1
  clear h hE hI hcl ih hgm hstab hi hR hRl hcall hm
  go_enter Try.func91, Try.ntmps91
  go_wp2
  clear hx h4 h2 hg_0
  go_loopg [22] m (fun kq v22 w' => ∃ (r : Nat) (ch1 : List Int) (t : σ), v22 = .int .i64 (r : Int) ∧ Aside0 (r + kq = m) ∧ Aside0 (onLoop (fun c t => onF R vis f (i + 1) c t) i kq r ch1 t = some (ch', s')) ∧ Aside0 (AEnv w' n1 N0 b4 b3 b2 b5 gc cp R.length g (.func (.func fv) #[] caps) ch1) ∧ Aside0 (ch1.length = R.length) ∧ Aside0 (Inv w' t))
  case atStart => exact ⟨0, ch, s, rfl, ⟨by simp⟩, ⟨by have := HH0.out; rw [HMM.out] at this; exact this⟩, HE, HCL, HI⟩
  case round =>
   clear HH0 HE HI HCL
   obtain ⟨r, ch1, t, rfl, HK, HH, HE, HCL, HI⟩ := hrel
   cases gk with
   | zero =>
    have hk := HK.out
    have c4b : decide ((r : Int) < (m : Int)) = false := decide_eq_false (by omega)
    have c4b2 : decide (r < m) = false := decide_eq_false (by omega)
    have hh := HH.out
    simp only [onLoop, Option.some.injEq, Prod.mk.injEq] at hh
    obtain ⟨rfl, rfl⟩ := hh
    clear hk HH
    go_wp2
    go_end0
    try go_wp2
    first | exact ⟨HE.out, HCL.out, HI.out⟩ | exact ⟨by first | rfl | (simp; done), HE.out, HCL.out, HI.out⟩
   | succ k1 =>
    have c4b : decide ((r : Int) < (m : Int)) = true := decide_eq_true (by have := HK.out; omega)
    have c4b2 : decide (r < m) = true := decide_eq_true (by have := HK.out; omega)
    have hh := HH.out
    rw [onLoop] at hh
    obtain ⟨q2, hq2, hh⟩ := Option.bind_eq_some_iff.1 hh
    have HQ2 := Aside0.mk hq2
    have HH2 := Aside0.mk hh
    clear hq2 hh HH
    have h4 : wr.cell? ⟨b4, 0, none⟩ = some (.slice (some ⟨gc, 0, none⟩) R.length cp) := (blk_cell HE.out.c4 0).trans rfl
    obtain ⟨hcc, hcf⟩ := Kd.R_celln 0 HE.out.row (i : Int) (by omega) (by have := HFI.out; omega)
    simp only [Int.toNat_natCast] at hcc hcf
    go_upto_region 6 with (fail)
    (try simp only [Act.put, List.setIfInBounds_toArray, List.set_cons_zero, List.set_cons_succ])
    obtain ⟨wq, hwq⟩ : ∃ wq, wr.setCell ⟨gc, i, none⟩ (.int .i64 (r : Int)) = wq := ⟨_, rfl⟩
    rw [hwq]
    have HE2 := Aside0.mk (show AEnv wq n1 N0 b4 b3 b2 b5 gc cp R.length g (.func (.func fv) #[] caps) (ch1.set i (r : Int)) from hwq ▸ HE.out.set i (r : Int))
    have HI2 := Aside0.mk (show Inv wq t from HST.out _ _ _ HI.out (hwq ▸ HE.out.side i (r : Int)))
    clear HE HI hwq hcc hcf h4
    have h5 : wq.cell? ⟨b5, 0, none⟩ = some (.func (.func 91) #[] #[.pointer (some ⟨b4, 0, none⟩), .pointer (some ⟨b3, 0, none⟩), .pointer (some ⟨b2, 0, none⟩), .pointer (some ⟨b5, 0, none⟩)]) := (blk_cell HE2.out.c5 0).trans rfl
    have hib : (i : Int) + 1 ≤ 5 := by have := HFI.out; have := HR.out; omega
    have hib0 : (0 : Int) ≤ (i : Int) := Int.natCast_nonneg _
    go_wp2_with (first | (go_at_call 91; ((refine (HIH.out (i + 1) (ch1.set i (r : Int)) q2.1 t q2.2 _ (by have := HFI.out; omega) (by rw [List.length_set]; exact HCL.out) HE2.out HI2.out HQ2.out).mono ?_); rintro e w5 ⟨rfl, hE5, hl5, hI5⟩; have HE5 := Aside0.mk hE5; have HI5 := Aside0.mk hI5; have HL5 := Aside0.mk hl5; clear hE5 hI5 hl5 h5)))
    try go_end0
    try go_wp2
    go_roundg k1
    case measure => omega
    case rel => exact ⟨r + 1, q2.1, q2.2, val_succ r (by have := HK.out; have := HM.out; omega), ⟨by have := HK.out; omega⟩, HH2, HE5, HL5, HI5⟩
set_option maxHeartbeats 8000000 in
set_option maxRecDepth 100000 in
theorem all_calls {σ : Type} (R T : List (List Int)) (g : Nat) (fv : FuncId) (caps : Array Value) (fn : Func) (hfn : Try.prog.funcs[fv]? = some fn) (hfn2 : (fn.name == "runtime.NumGoroutine") = false) (hfn3 : fn.body.isSome = true)
  (vis : σ → List Int → Option σ) (Inv : Nat → World → σ → Prop) (w : World) (s0 s1 : σ) (ch1 : List Int)
  (hstart : ∀ W, Below w.heap.size w W → Inv W.heap.size W s0) (hgm : ∀ N0 W s, Inv N0 W s → Gm W g R T) (hstab : ∀ N0 W W' s, w.heap.size ≤ N0 → Inv N0 W s → Side w.heap.size N0 W W' → Inv N0 W' s)
  (hcall : ∀ N0 W s s' A c l, w.heap.size ≤ N0 → N0 ≤ W.heap.size → Inv N0 W s → Kd.C (Kd.int .i64) W A l.length l → l.length ≤ c → l.length = R.length → vis s l = some s' → Calls Try.prog fv (#[.slice A l.length c] ++ caps) W fun e W' => e = .returned (.tuple #[]) ∧ Inv N0 W' s' ∧ Mid w.heap.size N0 W W')
  (hR1 : 1 ≤ R.length) (hR : R.length ≤ 5) (hRl : ∀ i, (rd_L12 R i).length ≤ 5) (h : onF R vis R.length 0 (List.replicate R.length 0) s0 = some (ch1, s1)) :
  Calls Try.prog 59 #[.pointer (some ⟨g, 0, none⟩), .func (.func fv) #[] caps] w fun e W' => e = .returned (.tuple #[]) ∧ ∃ N0, w.heap.size ≤ N0 ∧ Inv N0 W' s1 := by
 have hmf : ∀ (fn : Fn) (first cap : Array Value) (w : World), (Instr.makeFunc fn first cap).run Try.prog w = .ok (.func fn first cap) w := fun _ _ _ _ => rfl
 have HG := Aside0.mk (hgm _ _ _ (hstart w (Below.refl _ _)))
 have HST := Aside0.mk hstart
 have HON := Aside0.mk (fun N0 b4 b3 b2 b5 gc cp (hN : w.heap.size ≤ N0) => on_calls R T w.heap.size N0 b4 b3 b2 b5 gc cp g fv caps fn hfn hfn2 hfn3 vis (Inv N0) (hgm N0) (fun W W' s => hstab N0 W W' s hN) (fun W s s' A c l => hcall N0 W s s' A c l hN) hR hRl)
 have HH := Aside0.mk h
 have HR1 := Aside0.mk hR1
 have HR := Aside0.mk hR
 have HB := Aside0.mk (Below.refl w.heap.size w)
 have hn0 : decide ((0 : Int) ≤ (R.length : Int)) = true := decide_eq_true (by omega)
 clear hstart hgm hstab hcall hR1 hR hRl h hfn hfn2 hfn3
 go_enter Try.func59, Try.ntmps59
 go_upto_region 1 with (first | ((with_reducible refine gate_dst (N := 2) rfl ?_); refine box_event ?hg (N := 2) ?hd (cs := #[.pointer (some ⟨g, 0, none⟩)]) (t := 82) ?hr ?_; (case hd => rfl); (case hg => rfl); (case hr => first | (go_simp; done) | (go_simp; rfl)); intro b2 hg w1 hbox hb; have B2 := Aside0.mk hbox; have M2 := Aside0.mk (show w.heap.size ≤ b2 by rw [hg]; exact Nat.le_refl _); clear HB; have HB := Aside0.mk hb; clear hg hbox hb) | ((with_reducible refine gate_dst (N := 3) rfl ?_); refine box_event ?hg (N := 3) ?hd (cs := #[.func (.func fv) #[] caps]) (t := 89) ?hr ?_; (case hd => rfl); (case hg => rfl); (case hr => first | (go_simp; done) | (go_simp; rfl)); intro b3 hg w2 hbox hb; have B3 := Aside0.mk hbox; have M3 := Aside0.mk (show w.heap.size ≤ b3 by rw [hg]; exact below_size HB.out); have n0_ := Aside0.mk (below_step HB.out hb); have n1_ := Aside0.mk (blk_below B2.out hb); clear HB B2; have HB := n0_; have B2 := n1_; clear n0_ n1_ hg hbox hb))
 have HG2 := Aside0.mk (HG.out.below HB.out)
 obtain ⟨Ar, cr, Ap, cp2, q, g1, g2, g3, g4, g5, g6, g7⟩ := HG2.out.ex
 have hg_0 : w2.cell? ⟨g, 0, none⟩ = some (.slice Ar R.length cr) := (blk_cell g1 0).trans rfl
 have h2 : w2.cell? ⟨b2, 0, none⟩ = some (.pointer (some ⟨g, 0, none⟩)) := (blk_cell B2.out 0).trans rfl
 clear g1 g2 g3 g4 g5 g6 g7
 go_upto_region 2 with (first | ((with_reducible refine gate_dst (N := 11) rfl ?_); refine Kd.R_make (Kd.int .i64) (w0 := w) w.heap.size 3 rfl (N := 11) rfl 24 _ _ rfl (R.length : Int) rfl rfl Try.underlying24 (.int .i64 0) 8 info3 rfl (by decide) (by omega) 0 (ok := fun _ => True) (okp := fun _ => True) rfl (fun _ hk => hk) trivial (Int.natCast_nonneg _) (by have := HR.out; omega) HB.out (below_size HB.out) ?_; intro v11 w3 ho hb hg_ hnew_; have n0_ := Aside0.mk (blk_grown B2.out hg_ (by simp)); have n1_ := Aside0.mk (blk_grown B3.out hg_ (by simp)); have HO := Aside0.mk ho; clear HB B2 B3 hg_0 h2; have HB := Aside0.mk hb; have B2 := n0_; have B3 := n1_; clear n0_ n1_ ho hb hg_ hnew_; obtain ⟨gc, cp, hv11, hgc, hgc2, _⟩ := Kd.R_form HO.out (by rw [List.length_replicate]; have := HR1.out; omega); subst hv11; have MC := Aside0.mk hgc; have MC2 := Aside0.mk hgc2; clear hgc hgc2))
 obtain ⟨b4, hb4⟩ : ∃ b4, w3.heap.size = b4 := ⟨_, rfl⟩
 rw [hb4]
 obtain ⟨wq, hwq⟩ : ∃ wq, w3.alloc (.cells #[.slice (some ⟨gc, 0, none⟩) R.length cp] 24) = wq := ⟨_, rfl⟩
 rw [hwq]
 have n0_ : Below w3.heap.size w3 wq := hwq ▸ below_alloc (Below.refl _ _) _
 have B4 := Aside0.mk (hb4 ▸ hwq ▸ heap_alloc_new w3 _ : wq.heap[b4]? = some (.cells #[.slice (some ⟨gc, 0, none⟩) R.length cp] 24 (0, 0)))
 have M4 := Aside0.mk (show w.heap.size ≤ b4 by rw [← hb4]; exact below_size HB.out)
 have n1_ := Aside0.mk (below_step HB.out n0_)
 have n2_ := Aside0.mk (blk_below B2.out n0_)
 have n3_ := Aside0.mk (blk_below B3.out n0_)
 have n4_ := Aside0.mk (Kd.R_below HO.out n0_)
 clear HB B2 B3 HO hwq hb4 n0_
 have HB := n1_; have B2 := n2_; have B3 := n3_; have HO := n4_
 clear n1_ n2_ n3_ n4_
 go_upto_region 4 with (fail)
 obtain ⟨b5, hb5⟩ : ∃ b5, wq.heap.size = b5 := ⟨_, rfl⟩
 rw [hb5]
 obtain ⟨wz, hwz⟩ : ∃ wz, wq.alloc (.cells #[.func (.func 91) #[] #[.pointer (some ⟨b4, 0, none⟩), .pointer (some ⟨b3, 0, none⟩), .pointer (some ⟨b2, 0, none⟩), .pointer (some ⟨b5, 0, none⟩)]] 119) = wz := ⟨_, rfl⟩
 rw [hwz]
 have n0_ : Below wq.heap.size wq wz := hwz ▸ below_alloc (Below.refl _ _) _
 have B5 := Aside0.mk (by have h_ := heap_alloc_new wq (.cells #[.func (.func 91) #[] #[.pointer (some ⟨b4, 0, none⟩), .pointer (some ⟨b3, 0, none⟩), .pointer (some ⟨b2, 0, none⟩), .pointer (some ⟨b5, 0, none⟩)]] 119); rw [hwz, hb5] at h_; exact h_ : wz.heap[b5]? = some (.cells #[.func (.func 91) #[] #[.pointer (some ⟨b4, 0, none⟩), .pointer (some ⟨b3, 0, none⟩), .pointer (some ⟨b2, 0, none⟩), .pointer (some ⟨b5, 0, none⟩)]] 119 (0, 0)))
 have M5 := Aside0.mk (show w.heap.size ≤ b5 by rw [← hb5]; exact below_size HB.out)
 have n1_ := Aside0.mk (below_step HB.out n0_)
 have n2_ := Aside0.mk (blk_below B2.out n0_)
 have n3_ := Aside0.mk (blk_below B3.out n0_)
 have n4_ := Aside0.mk (Kd.R_below HO.out n0_)
 have n5_ := Aside0.mk (blk_below B4.out n0_)
 clear HB B2 B3 HO B4 hwz hb5 n0_
 have HB := n1_; have B2 := n2_; have B3 := n3_; have HO := n4_; have B4 := n5_
 clear n1_ n2_ n3_ n4_ n5_
 have HE := Aside0.mk (show AEnv wz w.heap.size wz.heap.size b4 b3 b2 b5 gc cp R.length g (.func (.func fv) #[] caps) (List.replicate R.length 0) from ⟨B4.out, B3.out, B2.out, B5.out, Kd.R_mono (Kd.R_tight rfl (by have := HO.out; simp only [Int.toNat_natCast, List.length_replicate] at this; exact this)) (fun k hk => by injection hk), ⟨M4.out, blk_lt B4.out⟩, ⟨M3.out, blk_lt B3.out⟩, ⟨M2.out, blk_lt B2.out⟩, ⟨M5.out, blk_lt B5.out⟩, ⟨MC.out, Kd.R_lt HO.out gc rfl⟩, Nat.le_refl _⟩)
 have HS := Aside0.mk (HST.out wz HB.out)
 have h5 : wz.cell? ⟨b5, 0, none⟩ = some (.func (.func 91) #[] #[.pointer (some ⟨b4, 0, none⟩), .pointer (some ⟨b3, 0, none⟩), .pointer (some ⟨b2, 0, none⟩), .pointer (some ⟨b5, 0, none⟩)]) := (blk_cell B5.out 0).trans rfl
 go_wp2_with (first | (go_at_call 91; ((refine (HON.out wz.heap.size b4 b3 b2 b5 gc cp (below_size HB.out) R.length 0 (List.replicate R.length 0) ch1 s0 s1 wz (Nat.zero_add _) (List.length_replicate ..) HE.out HS.out HH.out).mono ?_); rintro e w5 ⟨rfl, _, _, hI⟩; have HI := Aside0.mk hI; have HN := Aside0.mk (below_size HB.out); clear hI h5)))
 go_end0
 try go_wp2
 first | exact ⟨_, HN.out, HI.out⟩ | exact ⟨by first | rfl | (simp; done), _, HN.out, HI.out⟩
end Go.Proofs.Ytjgbdicbdlollaa.B
namespace Go.Proofs.Ytjgbdicbdlollaa.B
open Go.RowKit Go.Proofs.YtjgbdicbdlollaaW.PrintWords Go.Proofs.YtjgbdicbdlollaaW.PrintLast Go.Proofs.YtjgbdicbdlollaaW.PrintMore
set_option linter.unusedVariables false
set_option linter.unusedSimpArgs false
/-- What Best's visitor does to the best choice and the least total. -/
def visB (k : Nat) (R T : List (List Int)) (s : List Int × Int) (ch : List Int) : Option (List Int × Int) :=
  (jam_game_costs.f k R (unitsOf T) (payF T) ch).bind fun r => if s.1 = [] ∨ r.2 < s.2 then (slices_Clone.f ch).bind fun c => some (c, r.2) else some s
theorem visB_mono (k : Nat) (R T : List (List Int)) (s : List Int × Int) (ch : List Int) : LeO (visB k R T s ch) (visB (k + 1) R T s ch) := by
  unfold visB
  exact LeO.bind (jam_game_costs.mono _ _ _ _ k) fun r => LeO.refl _
def jam_Best.f (k : Nat) (R T : List (List Int)) : Option (List Int × Int × Int) :=
  if readOk R T = true then (onF R (visB k R T) R.length 0 (List.replicate R.length 0) ([], 0)).bind fun q => some (q.2.1, q.2.2, 0) else some ([], 0, 2)
theorem jam_Best.mono : ∀ R T k, LeO (jam_Best.f k R T) (jam_Best.f (k + 1) R T) := by
  intro R T k
  unfold jam_Best.f
  exact LeO.ite (LeO.bind (onF_mono R (visB_mono k R T) _ _ _ _) fun q => LeO.refl _) (LeO.refl _)
theorem readOk_routes {R T : List (List Int)} (h : readOk R T = true) : 1 ≤ R.length ∧ R.length ≤ 5 ∧ ∀ i, (rd_L12 R i).length ≤ 5 := by
  unfold readOk at h
  simp only [Bool.and_eq_true, decide_eq_true_eq] at h
  refine ⟨h.1.1.1.1.1, h.1.1.1.1.2, fun i => ?_⟩
  have h2 := h.2
  rw [List.all_eq_true] at h2
  unfold rd_L12
  rcases Nat.lt_or_ge i.toNat R.length with hj | hj
  · rw [List.getD_eq_getElem?_getD, List.getElem?_eq_getElem hj]
    have h3 := h2 _ (List.getElem_mem hj)
    unfold routeOk at h3
    simp only [Bool.and_eq_true, decide_eq_true_eq] at h3
    exact h3.1.1.2
  · rw [List.getD_eq_getElem?_getD, List.getElem?_eq_none hj]; simp
/-- What Best's variables say. -/
structure InvB (wG : World) (n1 b5 b7 b8 g : Nat) (R T : List (List Int)) (N0 : Nat) (W : World) (s : List Int × Int) : Prop where
  hB : Below wG.heap.size wG W
  hG : Gm wG g R T
  c5 : W.heap[b5]? = some (.cells #[.pointer (some ⟨g, 0, none⟩)] 82 (0, 0))
  c7 : ∃ vb, W.heap[b7]? = some (.cells #[vb] 24 (0, 0)) ∧ ((vb = .slice none 0 0 ∧ s.1 = []) ∨ s.1 ≠ []) ∧ Kd.R (Kd.int .i64) 3 W N0 (fun k => N0 ≤ k) vb s.1
  c8 : W.heap[b8]? = some (.cells #[.int .i64 s.2] 3 (0, 0))
  o5 : wG.heap.size ≤ b5 ∧ b5 < n1
  o7 : wG.heap.size ≤ b7 ∧ b7 < n1
  o8 : wG.heap.size ≤ b8 ∧ b8 < n1
  oN : n1 ≤ N0
section
variable {wG W W' : World} {n1 b5 b7 b8 g N0 : Nat} {R T : List (List Int)} {s : List Int × Int}
theorem InvB.gm (h : InvB wG n1 b5 b7 b8 g R T N0 W s) : Gm W g R T := h.hG.below h.hB
theorem InvB.side (h : InvB wG n1 b5 b7 b8 g R T N0 W s) (hs : Side n1 N0 W W') : InvB wG n1 b5 b7 b8 g R T N0 W' s := by
  obtain ⟨vb, h1, h2, h3⟩ := h.c7
  refine ⟨⟨hs.os.trans h.hB.os, hs.tape.trans h.hB.tape, hs.output.trans h.hB.output, Nat.le_trans h.hB.size hs.size, fun k hk => (hs.blk k (Nat.lt_of_lt_of_le hk h.hB.size) (.inl (by have := h.o5; omega))).trans (h.hB.block k hk)⟩, h.hG, (hs.blk _ (blk_lt h.c5) (.inl h.o5.2)).trans h.c5, ⟨vb, (hs.blk _ (blk_lt h1) (.inl h.o7.2)).trans h1, h2, Kd.R_step h3 (fun k hk hlt => hs.blk k hlt (.inr hk))⟩, (hs.blk _ (blk_lt h.c8) (.inl h.o8.2)).trans h.c8, h.o5, h.o7, h.o8, h.oN⟩
theorem InvB.below (h : InvB wG n1 b5 b7 b8 g R T N0 W s) (hb : Below W.heap.size W W') : InvB wG n1 b5 b7 b8 g R T N0 W' s := by
  obtain ⟨vb, h1, h2, h3⟩ := h.c7
  exact ⟨below_step h.hB hb, h.hG, blk_below h.c5 hb, ⟨vb, blk_below h1 hb, h2, Kd.R_below h3 hb⟩, blk_below h.c8 hb, h.o5, h.o7, h.o8, h.oN⟩
theorem InvB.ne78 (h : InvB wG n1 b5 b7 b8 g R T N0 W s) : b7 ≠ b8 := by
  obtain ⟨vb, h1, h2, h3⟩ := h.c7
  rintro rfl
  have := h1.symm.trans h.c8
  injection this with this
  injection this with _ this
  exact absurd this (by decide)
theorem Mid.of_below (hb : Below W.heap.size W W') (hN : N0 ≤ W.heap.size) : Mid n1 N0 W W' := ⟨hb.size, fun k _ hk => hb.block k (Nat.lt_of_lt_of_le hk hN)⟩
/-- A better choice. -/
theorem InvB.put (h : InvB wG n1 b5 b7 b8 g R T N0 W s) (hN : N0 ≤ W.heap.size) {v : Value} {c : List Int} {t : Int} (hc : c ≠ []) (hR : Kd.R (Kd.int .i64) 3 W N0 (fun k => N0 ≤ k) v c) :
    InvB wG n1 b5 b7 b8 g R T N0 ((W.setCell ⟨b7, 0, none⟩ v).setCell ⟨b8, 0, none⟩ (.int .i64 t)) (c, t) ∧ Mid n1 N0 W ((W.setCell ⟨b7, 0, none⟩ v).setCell ⟨b8, 0, none⟩ (.int .i64 t)) := by
  obtain ⟨vb, h1, h2, h3⟩ := h.c7
  have hk : ∀ k, k ≠ b7 → k ≠ b8 → ((W.setCell ⟨b7, 0, none⟩ v).setCell ⟨b8, 0, none⟩ (.int .i64 t)).heap[k]? = W.heap[k]? := fun k e7 e8 => (Below.heap_setCell _ ⟨b8, 0, none⟩ _ k e8).trans (Below.heap_setCell _ ⟨b7, 0, none⟩ _ k e7)
  have n57 : b5 ≠ b7 := by
    rintro rfl
    have := h.c5.symm.trans h1
    injection this with this
    injection this with _ this
    exact absurd this (by decide)
  have n58 : b5 ≠ b8 := by
    rintro rfl
    have := h.c5.symm.trans h.c8
    injection this with this
    injection this with _ this
    exact absurd this (by decide)
  have n78 : b7 ≠ b8 := by
    rintro rfl
    have := h1.symm.trans h.c8
    injection this with this
    injection this with _ this
    exact absurd this (by decide)
  have hA := below_set (j := 0) (v := v) h.hB h.o7.1
  have hB := below_set (j := 0) (v := .int .i64 t) hA h.o8.1
  refine ⟨⟨hB, h.hG, (hk _ n57 n58).trans h.c5, ⟨v, ?_, .inr hc, Kd.R_step hR (fun k hk2 _ => hk k (by have := h.o7; have := h.oN; omega) (by have := h.o8; have := h.oN; omega))⟩, ?_, h.o5, h.o7, h.o8, h.oN⟩, ?_, fun k h1 h2 => hk k (by have := h.o7; omega) (by have := h.o8; omega)⟩
  · exact blk_far (blk_put (cs := #[vb]) h1 0 v rfl) n78 _
  · exact blk_put (cs := #[.int .i64 s.2]) (blk_far h.c8 (fun e => n78 e.symm) _) 0 _ rfl
  · simp
end
set_option maxHeartbeats 8000000 in
set_option maxRecDepth 100000 in
theorem best1_calls (k : Nat) (wG : World) (n1 b5 b7 b8 g : Nat) (R T : List (List Int)) (N0 : Nat) (W : World) (s s' : List Int × Int) (A : Option Addr) (c : Nat) (l : List Int) (hN : N0 ≤ W.heap.size) (hI : InvB wG n1 b5 b7 b8 g R T N0 W s) (hr : Kd.C (Kd.int .i64) W A l.length l) (hc : l.length ≤ c) (hl : l.length ≠ 0) (h : visB k R T s l = some s') :
  Calls Try.prog 60 #[.slice A l.length c, .pointer (some ⟨b5, 0, none⟩), .pointer (some ⟨b7, 0, none⟩), .pointer (some ⟨b8, 0, none⟩)] W fun e W' => e = .returned (.tuple #[]) ∧ InvB wG n1 b5 b7 b8 g R T N0 W' s' ∧ Mid n1 N0 W W' := by
 have qT : ∀ (w : World) (a : Option Addr) (n c n' c' : Nat), (binOp .eql 24 (.slice a n c) (.slice none n' c')).run Try.prog w = .ok (.bool a.isNone) w := fun w a n c n' c' => Lib.run_eql_slice_nil w _ _ a n c n' c' Try.underlying24
 unfold visB at h
 obtain ⟨⟨r1, r2⟩, hx, h⟩ := Option.bind_eq_some_iff.1 h
 simp only at h
 have HX := Aside0.mk hx
 have HR := Aside0.mk hr
 have HC := Aside0.mk hc
 have HN := Aside0.mk hN
 have HL := Aside0.mk hl
 have HI0 := Aside0.mk hI
 have HM := Aside0.mk (Mid.of_below (n1 := n1) (Below.refl W.heap.size W) hN)
 have HB := Aside0.mk (Below.refl W.heap.size W)
 have h5 : W.cell? ⟨b5, 0, none⟩ = some (.pointer (some ⟨g, 0, none⟩)) := (blk_cell hI.c5 0).trans rfl
 have n78 := hI.ne78
 have n87 : b8 ≠ b7 := fun e => n78 e.symm
 clear hx hr hc hN hI hl

 by_cases hn : s.1 = []
 ·rw [if_pos (.inl hn)] at h
  obtain ⟨c2, hcl, h⟩ := Option.bind_eq_some_iff.1 h
  obtain rfl := Option.some.inj h
  have HCL := Aside0.mk hcl
  have HNX := Aside0.mk hn
  clear hcl hn h
  go_enter Try.func60, Try.ntmps60
  go_wp2_with (first | (go_at_call 61; (refine (costs_g k g R T A c l r1 r2 _ HI0.out.gm HR.out HC.out HX.out).mono ?_); rintro e w3 ⟨v1, rfl, _, hb⟩; have HI := Aside0.mk (HI0.out.below hb); clear HB h5; have HB := Aside0.mk hb; clear hb; obtain ⟨vb, hc7, hnil, hRb⟩ := HI.out.c7; have h7 : w3.cell? ⟨b7, 0, none⟩ = some vb := (blk_cell hc7 0).trans rfl; have f7 := blk_frozen hc7 0; have h8 : w3.cell? ⟨b8, 0, none⟩ = some (.int .i64 s.2) := (blk_cell HI.out.c8 0).trans rfl; have f8 := blk_frozen HI.out.c8 0; obtain rfl : vb = .slice none 0 0 := (by rcases hnil with ⟨h1, _⟩ | h2; exact h1; exact absurd HNX.out h2); clear hnil; clear hRb hc7) | (go_at_call 62; (refine (slices_Clone.calls A c l c2 _ (Kd.C_below HR.out HB.out) HC.out HCL.out).mono ?_); rintro e w4 ⟨v2, rfl, ho, hb⟩; obtain ⟨Ac, cc, hv2⟩ := Kd.R_slice ho; subst hv2; have HI2 := Aside0.mk (HI.out.below hb); have HR2 := Aside0.mk (Kd.R_mono (Kd.R_bound (Kd.R_lower ho (Nat.le_trans HN.out HB.out.size))) (fun _ hk => hk.2.1)); have n0_ := Aside0.mk (below_step HB.out hb); clear HB ho h7 h8 f7 f8; have HB := n0_; clear n0_ hb; obtain ⟨vb4, hc74, _, _⟩ := HI2.out.c7; have h7 : w4.cell? ⟨b7, 0, none⟩ = some vb4 := (blk_cell hc74 0).trans rfl; have f7 := blk_frozen hc74 0; have h8 : w4.cell? ⟨b8, 0, none⟩ = some (.int .i64 s.2) := (blk_cell HI2.out.c8 0).trans rfl; have f8 := blk_frozen HI2.out.c8 0; clear hc74))
  have HP := Aside0.mk (HI2.out.put (t := r2) (Nat.le_trans HN.out HB.out.size) (by intro e; have := HCL.out; unfold slices_Clone.f at this; split at this; (have h1 := Option.some.inj this; rw [← h1] at e; exact HL.out (by rw [e]; rfl)); exact absurd this (by simp)) HR2.out)
  go_end0
  try go_wp2
  first | exact ⟨HP.out.1, Nat.le_trans HB.out.size HP.out.2.size, fun k h1 h2 => (HP.out.2.blk k h1 h2).trans (HB.out.block k (Nat.lt_of_lt_of_le h2 HN.out))⟩ | exact ⟨by first | rfl | (simp; done), HP.out.1, Nat.le_trans HB.out.size HP.out.2.size, fun k h1 h2 => (HP.out.2.blk k h1 h2).trans (HB.out.block k (Nat.lt_of_lt_of_le h2 HN.out))⟩
 ·have HNX := Aside0.mk hn
  by_cases ht : r2 < s.2
  ·rw [if_pos (.inr ht)] at h
   obtain ⟨c2, hcl, h⟩ := Option.bind_eq_some_iff.1 h
   obtain rfl := Option.some.inj h
   have HCL := Aside0.mk hcl
   have c0 : decide (r2 < s.2) = true := decide_eq_true ht
   clear hcl hn h ht
   go_enter Try.func60, Try.ntmps60
   go_wp2_with (first | (go_at_call 61; (refine (costs_g k g R T A c l r1 r2 _ HI0.out.gm HR.out HC.out HX.out).mono ?_); rintro e w3 ⟨v1, rfl, _, hb⟩; have HI := Aside0.mk (HI0.out.below hb); clear HB h5; have HB := Aside0.mk hb; clear hb; obtain ⟨vb, hc7, hnil, hRb⟩ := HI.out.c7; have h7 : w3.cell? ⟨b7, 0, none⟩ = some vb := (blk_cell hc7 0).trans rfl; have f7 := blk_frozen hc7 0; have h8 : w3.cell? ⟨b8, 0, none⟩ = some (.int .i64 s.2) := (blk_cell HI.out.c8 0).trans rfl; have f8 := blk_frozen HI.out.c8 0; obtain ⟨g5, cc5, hv5, _⟩ := Kd.R_form hRb (List.length_pos_iff.2 HNX.out); subst hv5; clear hnil; clear hRb hc7) | (go_at_call 62; (refine (slices_Clone.calls A c l c2 _ (Kd.C_below HR.out HB.out) HC.out HCL.out).mono ?_); rintro e w4 ⟨v2, rfl, ho, hb⟩; obtain ⟨Ac, cc, hv2⟩ := Kd.R_slice ho; subst hv2; have HI2 := Aside0.mk (HI.out.below hb); have HR2 := Aside0.mk (Kd.R_mono (Kd.R_bound (Kd.R_lower ho (Nat.le_trans HN.out HB.out.size))) (fun _ hk => hk.2.1)); have n0_ := Aside0.mk (below_step HB.out hb); clear HB ho h7 h8 f7 f8; have HB := n0_; clear n0_ hb; obtain ⟨vb4, hc74, _, _⟩ := HI2.out.c7; have h7 : w4.cell? ⟨b7, 0, none⟩ = some vb4 := (blk_cell hc74 0).trans rfl; have f7 := blk_frozen hc74 0; have h8 : w4.cell? ⟨b8, 0, none⟩ = some (.int .i64 s.2) := (blk_cell HI2.out.c8 0).trans rfl; have f8 := blk_frozen HI2.out.c8 0; clear hc74))
   have HP := Aside0.mk (HI2.out.put (t := r2) (Nat.le_trans HN.out HB.out.size) (by intro e; have := HCL.out; unfold slices_Clone.f at this; split at this; (have h1 := Option.some.inj this; rw [← h1] at e; exact HL.out (by rw [e]; rfl)); exact absurd this (by simp)) HR2.out)
   go_end0
   try go_wp2
   first | exact ⟨HP.out.1, Nat.le_trans HB.out.size HP.out.2.size, fun k h1 h2 => (HP.out.2.blk k h1 h2).trans (HB.out.block k (Nat.lt_of_lt_of_le h2 HN.out))⟩ | exact ⟨by first | rfl | (simp; done), HP.out.1, Nat.le_trans HB.out.size HP.out.2.size, fun k h1 h2 => (HP.out.2.blk k h1 h2).trans (HB.out.block k (Nat.lt_of_lt_of_le h2 HN.out))⟩
  ·rw [if_neg (by rintro (h1 | h1); exact hn h1; exact ht h1)] at h
   obtain rfl := Option.some.inj h
   have c0 : decide (r2 < s.2) = false := decide_eq_false ht
   clear hn h ht
   go_enter Try.func60, Try.ntmps60
   go_wp2_with (first | (go_at_call 61; (refine (costs_g k g R T A c l r1 r2 _ HI0.out.gm HR.out HC.out HX.out).mono ?_); rintro e w3 ⟨v1, rfl, _, hb⟩; have HI := Aside0.mk (HI0.out.below hb); clear HB h5; have HB := Aside0.mk hb; clear hb; obtain ⟨vb, hc7, hnil, hRb⟩ := HI.out.c7; have h7 : w3.cell? ⟨b7, 0, none⟩ = some vb := (blk_cell hc7 0).trans rfl; have f7 := blk_frozen hc7 0; have h8 : w3.cell? ⟨b8, 0, none⟩ = some (.int .i64 s.2) := (blk_cell HI.out.c8 0).trans rfl; have f8 := blk_frozen HI.out.c8 0; obtain ⟨g5, cc5, hv5, _⟩ := Kd.R_form hRb (List.length_pos_iff.2 HNX.out); subst hv5; clear hnil; clear hRb hc7))
   go_end0
   try go_wp2
   first | exact ⟨HI.out, Mid.of_below HB.out HN.out⟩ | exact ⟨by first | rfl | (simp; done), HI.out, Mid.of_below HB.out HN.out⟩
set_option maxHeartbeats 8000000 in
set_option maxRecDepth 100000 in
theorem jam_Best.calls (k : Nat) (A0_0 : Option Addr) (c0_0 : Nat) (l0_0 : List (List Int)) (A0_1 : Option Addr) (c0_1 : Nat) (l0_1 : List (List Int)) (r1 : List Int) (r2 r3 : Int) (w : World) (hr0_0 : Kd.C (Kd.slice 3 (Kd.int .i64)) w A0_0 l0_0.length l0_0) (hc0_0 : l0_0.length ≤ c0_0) (hr0_1 : Kd.C (Kd.slice 3 (Kd.int .i64)) w A0_1 l0_1.length l0_1) (hc0_1 : l0_1.length ≤ c0_1) (h : jam_Best.f k l0_0 l0_1 = some (r1, r2, r3)) :
  Calls Try.prog 27 #[.agg #[.slice A0_0 l0_0.length c0_0, .slice A0_1 l0_1.length c0_1]] w fun e w' => ∃ v0_ : Value, e = .returned (.tuple #[v0_, .int .i64 r2, .int .i64 r3]) ∧ Kd.R (Kd.int .i64) 3 w' w.heap.size (fun _ => True) v0_ r1 ∧ Below w.heap.size w w' := by
 have hu41 := Try.underlying41
 have hmf : ∀ (fn : Fn) (first cap : Array Value) (w : World), (Instr.makeFunc fn first cap).run Try.prog w = .ok (.func fn first cap) w := fun _ _ _ _ => rfl
 have HR0 := Aside0.mk hr0_0
 have HC0 := Aside0.mk hc0_0
 have HR1 := Aside0.mk hr0_1
 have HC1 := Aside0.mk hc0_1
 clear hr0_0 hc0_0 hr0_1 hc0_1
 have HB := Aside0.mk (Below.refl w.heap.size w)
 unfold jam_Best.f at h
 by_cases hp : readOk l0_0 l0_1 = true
 case neg =>
  rw [if_neg hp] at h
  have HPO := Aside0.mk (Bool.eq_false_iff.mpr hp)
  clear hp
  simp only [Option.some.injEq, Prod.mk.injEq] at h
  obtain ⟨rfl, rfl, rfl⟩ := h
  go_enter Try.func27, Try.ntmps27
  go_wp2_with (first | ((with_reducible refine gate_dst (N := 1) rfl ?_); refine box_event ?hg (N := 1) ?hd (cs := #[.slice A0_0 l0_0.length c0_0, .slice A0_1 l0_1.length c0_1]) (t := 41) ?hr ?_; (case hd => rfl); (case hg => rfl); (case hr => first | (go_simp; done) | (go_simp; rfl)); intro gb hg w1 hbox hb; have BB := Aside0.mk hbox; clear HB; have HB := Aside0.mk hb; clear hg hbox hb; have hb_0 : w1.cell? ⟨gb, 0, none⟩ = some (.slice A0_0 l0_0.length c0_0) := (blk_cell BB.out 0).trans rfl; have hb_1 : w1.cell? ⟨gb, 1, none⟩ = some (.slice A0_1 l0_1.length c0_1) := (blk_cell BB.out 1).trans rfl) | (go_at_call 58; (refine (read_err A0_0 c0_0 l0_0 A0_1 c0_1 l0_1 _ (Kd.C_below HR0.out HB.out) HC0.out (Kd.C_below HR1.out HB.out) HC1.out HPO.out).mono ?_); rintro e w2 ⟨rfl, hb⟩; have n0_ := Aside0.mk (below_step HB.out hb); clear HB BB hb hb_0 hb_1; have HB := n0_; clear n0_))
  go_ret3
  exact ⟨_, by first | rfl | (simp; done), Kd.R_nil _ _ _ _ _, by repeat (first | (with_reducible first | exact HB.out | apply below_alloc | apply pw_below_drewN | apply below_drew1) | exact HB.out)⟩
 rw [if_pos hp] at h
 have HPO := Aside0.mk hp
 clear hp
 obtain ⟨⟨ch1, x1, x2⟩, hx, h⟩ := Option.bind_eq_some_iff.1 h
 have HX := Aside0.mk hx
 clear hx
 simp only [Option.some.injEq, Prod.mk.injEq] at h
 obtain ⟨rfl, rfl, rfl⟩ := h
 go_enter Try.func27, Try.ntmps27
 go_upto_region 4 with (first | ((with_reducible refine gate_dst (N := 1) rfl ?_); refine box_event ?hg (N := 1) ?hd (cs := #[.slice A0_0 l0_0.length c0_0, .slice A0_1 l0_1.length c0_1]) (t := 41) ?hr ?_; (case hd => rfl); (case hg => rfl); (case hr => first | (go_simp; done) | (go_simp; rfl)); intro gb hg w1 hbox hb; have BB := Aside0.mk hbox; clear HB; have HB := Aside0.mk hb; clear hg hbox hb; have hb_0 : w1.cell? ⟨gb, 0, none⟩ = some (.slice A0_0 l0_0.length c0_0) := (blk_cell BB.out 0).trans rfl; have hb_1 : w1.cell? ⟨gb, 1, none⟩ = some (.slice A0_1 l0_1.length c0_1) := (blk_cell BB.out 1).trans rfl) | (go_at_call 58; (refine (read_ok A0_0 c0_0 l0_0 A0_1 c0_1 l0_1 _ (Kd.C_below HR0.out HB.out) HC0.out (Kd.C_below HR1.out HB.out) HC1.out HPO.out).mono ?_); rintro e w2 ⟨g, rfl, _, hG, hb⟩; have GM := Aside0.mk hG; have n0_ := Aside0.mk (below_step HB.out hb); clear HB BB hb hG hb_0 hb_1; have HB := n0_; clear n0_))
 obtain ⟨b5, hb5⟩ : ∃ b5, w2.heap.size = b5 := ⟨_, rfl⟩
 rw [hb5]
 obtain ⟨wa, hwa⟩ : ∃ wa, w2.alloc (.cells #[.pointer (some ⟨g, 0, none⟩)] 82) = wa := ⟨_, rfl⟩
 rw [hwa]
 have n0_ : Below w2.heap.size w2 wa := hwa ▸ below_alloc (Below.refl _ _) _
 have B5 := Aside0.mk (hb5 ▸ hwa ▸ heap_alloc_new w2 _ : wa.heap[b5]? = some (.cells #[.pointer (some ⟨g, 0, none⟩)] 82 (0, 0)))
 have O5 := Aside0.mk (show w2.heap.size ≤ b5 by rw [hb5]; exact Nat.le_refl _)
 have HBA := Aside0.mk n0_
 clear hwa hb5 n0_
 go_upto_region 5 with (fail)
 obtain ⟨b7, hb7⟩ : ∃ b7, wa.heap.size = b7 := ⟨_, rfl⟩
 rw [hb7]
 obtain ⟨wb, hwb⟩ : ∃ wb, wa.alloc (.cells #[.slice none 0 0] 24) = wb := ⟨_, rfl⟩
 rw [hwb]
 have n0_ : Below wa.heap.size wa wb := hwb ▸ below_alloc (Below.refl _ _) _
 have B7 := Aside0.mk (hb7 ▸ hwb ▸ heap_alloc_new wa _ : wb.heap[b7]? = some (.cells #[.slice none 0 0] 24 (0, 0)))
 have O7 := Aside0.mk (show w2.heap.size ≤ b7 by rw [← hb7]; exact HBA.out.size)
 have n1_ := Aside0.mk (below_step HBA.out n0_)
 have n2_ := Aside0.mk (blk_below B5.out n0_)
 clear HBA B5 hwb hb7 n0_
 have HBA := n1_; have B5 := n2_
 clear n1_ n2_
 go_upto_region 6 with (fail)
 obtain ⟨b8, hb8⟩ : ∃ b8, wb.heap.size = b8 := ⟨_, rfl⟩
 rw [hb8]
 obtain ⟨wz, hwz⟩ : ∃ wz, wb.alloc (.cells #[.int .i64 0] 3) = wz := ⟨_, rfl⟩
 rw [hwz]
 have n0_ : Below wb.heap.size wb wz := hwz ▸ below_alloc (Below.refl _ _) _
 have B8 := Aside0.mk (hb8 ▸ hwz ▸ heap_alloc_new wb _ : wz.heap[b8]? = some (.cells #[.int .i64 0] 3 (0, 0)))
 have O8 := Aside0.mk (show w2.heap.size ≤ b8 by rw [← hb8]; exact HBA.out.size)
 have n1_ := Aside0.mk (below_step HBA.out n0_)
 have n2_ := Aside0.mk (blk_below B5.out n0_)
 have n3_ := Aside0.mk (blk_below B7.out n0_)
 clear HBA B5 B7 hwz hb8 n0_
 have HBA := n1_; have B5 := n2_; have B7 := n3_
 clear n1_ n2_ n3_
 have HRO := Aside0.mk (readOk_routes HPO.out)
 have HST := Aside0.mk (show ∀ W, Below wz.heap.size wz W → InvB w2 wz.heap.size b5 b7 b8 g l0_0 l0_1 W.heap.size W ([], 0) from fun W hW => ⟨below_step HBA.out hW, GM.out, blk_below B5.out hW, ⟨_, blk_below B7.out hW, .inl ⟨rfl, rfl⟩, Kd.R_nil _ _ _ _ _⟩, blk_below B8.out hW, ⟨O5.out, blk_lt B5.out⟩, ⟨O7.out, blk_lt B7.out⟩, ⟨O8.out, blk_lt B8.out⟩, hW.size⟩)
 have h5 : wz.cell? ⟨b5, 0, none⟩ = some (.pointer (some ⟨g, 0, none⟩)) := (blk_cell B5.out 0).trans rfl
 go_upto_region 7 with (first | (go_at_call 59; go_loud ((refine (all_calls l0_0 l0_1 g 60 #[.pointer (some ⟨b5, 0, none⟩), .pointer (some ⟨b7, 0, none⟩), .pointer (some ⟨b8, 0, none⟩)] _ Try.func60 (by kernel_rfl) rfl (visB k l0_0 l0_1) (InvB w2 wz.heap.size b5 b7 b8 g l0_0 l0_1) wz ([], 0) (x1, x2) ch1 HST.out (fun N0 W s h => h.gm) (fun N0 W W' s _ h hs => h.side hs) (fun N0 W s s' A c l hn hN hI hC hc hl hv => best1_calls k w2 wz.heap.size b5 b7 b8 g l0_0 l0_1 N0 W s s' A c l hN hI hC hc (by have := HRO.out.1; omega) hv) HRO.out.1 HRO.out.2.1 HRO.out.2.2 HX.out).mono ?_); rintro e w5 ⟨rfl, N0, hn, hI⟩; have HN := Aside0.mk hn; have HI := Aside0.mk hI; clear hn hI h5)))
 obtain ⟨vb, hc7, hnil, hRb⟩ := HI.out.c7
 have HRB := Aside0.mk hRb
 have h7 : w5.cell? ⟨b7, 0, none⟩ = some vb := (blk_cell hc7 0).trans rfl
 have h8 : w5.cell? ⟨b8, 0, none⟩ = some (.int .i64 x2) := (blk_cell HI.out.c8 0).trans rfl
 obtain ⟨Ab, cb, hvb⟩ := Kd.R_slice hRb
 subst hvb
 clear hc7 hnil hRb
 go_region_held3 (fun w' => w'.cell? ⟨b7, 0, none⟩ = some (.slice Ab x1.length cb) ∧ w'.cell? ⟨b8, 0, none⟩ = some (.int .i64 x2)) (go_keep) (fail)
 go_wp2
 go_ret3
 exact ⟨_, by first | rfl | (simp; done), by (with_reducible repeat (first | apply Kd.R_alloc | apply Kd.R_drewN | apply Kd.R_drew)); exact Kd.R_mono (Kd.R_lower HRB.out (Nat.le_trans (Nat.le_trans (below_size HB.out) HBA.out.size) HN.out)) (fun _ _ => trivial), by repeat (first | (with_reducible first | exact (below_step HB.out HI.out.hB) | apply below_alloc | apply pw_below_drewN | apply below_drew1) | exact (below_step HB.out HI.out.hB))⟩
end Go.Proofs.Ytjgbdicbdlollaa.B
namespace Go.Proofs.Ytjgbdicbdlollaa.B
open Go.RowKit Go.Proofs.YtjgbdicbdlollaaW.PrintWords Go.Proofs.YtjgbdicbdlollaaW.PrintLast Go.Proofs.YtjgbdicbdlollaaW.PrintMore
attribute [local go_sem] max2_int min2_int max_two min_two max_three min_three max_four min_four   -- for this text's walks alone
set_option linter.unusedVariables false
set_option linter.unusedSimpArgs false
def ratio_divisor.f : Nat → Int → Int → Option (Int)
  | 0, _, _ => none
  | k + 1, a0, a1 => if a1 = 0 then (some (mx a0 (wrap64 (-a0)))) else ((ratio_divisor.f k a1 (Int.tmod a0 a1)).bind fun t343 => (some t343))
theorem ratio_divisor.mono_l : ∀ k, (∀ y0 y1, LeO (ratio_divisor.f k y0 y1) (ratio_divisor.f (k + 1) y0 y1))
  | 0 => fun _ _ r h => by simp [ratio_divisor.f] at h
  | k + 1 => by
    have ih0 := ratio_divisor.mono_l k
    · intro y0 y1
      unfold ratio_divisor.f
      repeat' first
      | (with_reducible exact ih0 _ _)
      | (with_reducible exact LeO.refl _)
      | (with_reducible exact LeO.none _)
      | (with_reducible refine LeO.ite ?_ ?_)
      | (with_reducible refine LeO.bind ?_ (fun _ => ?_))
      | exact ih0 _ _
      | exact LeO.none _
      | refine LeO.ite ?_ ?_
      | refine LeO.bind ?_ (fun _ => ?_)
theorem ratio_divisor.mono : ∀ a0 a1 k, LeO (ratio_divisor.f k a0 a1) (ratio_divisor.f (k + 1) a0 a1) := by
  intro a0 a1 k
  have ih0 := ratio_divisor.mono_l k
  exact ih0 a0 a1
set_option maxHeartbeats 8000000 in
set_option maxRecDepth 100000 in
theorem ratio_divisor.calls (k : Nat) : ∀ (a0 : Int) (a1 : Int) (r : Int) (w : World) (h : ratio_divisor.f k a0 a1 = some r),
  Calls Try.prog 99 #[.int .i64 a0, .int .i64 a1] w fun e w' => e = .returned (.int .i64 r) ∧ Below w.heap.size w w' := by
 induction k using Nat.strongRecOn with
 | _ k ih =>
 intro a0 a1 r w h
 cases k with
 | zero => exact absurd h (by simp [ratio_divisor.f])
 | succ k =>
 simp only [ratio_divisor.f] at h
 have HB := Aside0.mk (Below.refl w.heap.size w)
 have H : (if a1 = 0 then (some (mx a0 (wrap64 (-a0)))) else ((ratio_divisor.f k a1 (Int.tmod a0 a1)).bind fun t343 => (some t343))) = some r := h
 clear h
 by_cases c3 : a1 = 0
 ·rw [if_pos c3] at H
  have c3b0 : (a1 == 0) = true := beq_iff_eq.mpr c3
  have c3b1 : (a1 != 0) = false := bne_eq_false_iff_eq.mpr c3
  clear c3
  obtain ⟨ji4, hji4⟩ : ∃ j_ : Int, (mx a0 (wrap64 (-a0))) = j_ := ⟨_, rfl⟩
  replace H : (some ji4) = some r := by first | (rw [hji4] at H; exact H) | (simp only [hji4] at H ⊢; exact H)
  have hji4_ : (if a0 < (wrap64 (-a0)) then (wrap64 (-a0)) else a0) = ji4 := hji4
  obtain rfl := Option.some.inj H
  go_enter Try.func99, Try.ntmps99
  go_wp2
  go_ret
  exact ⟨by first | rfl | (simp [errW_none, errW_some] <;> rfl) | (simp only [← hji4]; first | rfl | (simp [errW_none, errW_some] <;> rfl)) | (simp [*, errW_none, errW_some] <;> rfl), by repeat (first | (with_reducible first | exact HB.out | apply below_alloc | apply pw_below_drewN | apply below_drew1) | exact HB.out)⟩
 ·rw [if_neg c3] at H
  have c3b0 : (a1 == 0) = false := beq_eq_false_iff_ne.mpr c3
  have c3b1 : (a1 != 0) = true := bne_iff_ne.mpr c3
  replace H := Option.bind_eq_some_iff.mp H
  obtain ⟨t343, A50, H⟩ := H
  replace H : (some t343) = some r := H
  have A5 := Aside0.mk A50
  clear A50
  obtain rfl := Option.some.inj H
  go_enter Try.func99, Try.ntmps99
  go_wp2_with (first | ((with_reducible refine gate_callee (f := 99) rfl ?_); refine goesL_ (some 15) rfl rfl Try.func99 (by kernel_rfl) rfl #[.int .i64 a1, .int .i64 (Int.tmod a0 a1)] rfl (by (try simp only [List.map_toArray, List.map_cons, List.map_nil]); first | done | rfl | (simp only [List.length_drop, List.length_take]; rfl)) ?_; (with_reducible refine (ih k (by omega) a1 (Int.tmod a0 a1) t343 _ A5.out).mono ?_); rintro e w6 ⟨rfl, hb⟩; refine ⟨_, rfl, ?_⟩; have n0_ := Aside0.mk (below_step (by repeat (first | (with_reducible first | exact HB.out | apply below_alloc | apply pw_below_drewN | apply below_drew1) | exact HB.out)) hb); clear HB; have HB := n0_; clear n0_; (try clear hb); (try clear hb2); (try clear hk); (try clear hi)))
  go_ret
  exact ⟨by first | rfl | (simp [errW_none, errW_some] <;> rfl) | (simp [*, errW_none, errW_some] <;> rfl), by repeat (first | (with_reducible first | exact HB.out | apply below_alloc | apply pw_below_drewN | apply below_drew1) | exact HB.out)⟩
mutual
def ratio_Parts.l0 : Nat → List Int → Int → Int → List Int → Int → Int → Option (List Int × Int)
  | 0, _, _, _, _, _, _ => none
  | k + 1, x0, x1, x5, x12, x13, x14 => if x14 < x13 then (if 0 ≤ x14 then (if x14 < (x12.length : Int) then ((ratio_divisor.f k x5 (rd x12 x14)).bind fun t352 => (ratio_Parts.l0 k x0 x1 t352 x12 x13 (wrap64 (x14 + 1)))) else (none)) else (none)) else (if 0 ≤ (x0.length : Int) then (if ((x0.length : Int) : Int).toNat ≤ 35184372088832 then (ratio_Parts.l1 k x1 (mx x5 (wrap64 (-x5))) (List.replicate ((x0.length : Int) : Int).toNat 0) x0 (x0.length : Int) 0) else (none)) else (none))
def ratio_Parts.l1 : Nat → Int → Int → List Int → List Int → Int → Int → Option (List Int × Int)
  | 0, _, _, _, _, _, _ => none
  | k + 1, x1, x5, x8, x29, x30, x31 => if x31 < x30 then (if 0 ≤ x31 then (if x31 < (x29.length : Int) then (if x5 = 0 then (none) else (if x31 < (x8.length : Int) then (ratio_Parts.l1 k x1 x5 (x8.set (x31 : Int).toNat (wrap64 (Int.tdiv (rd x29 x31) x5))) x29 x30 (wrap64 (x31 + 1))) else (none))) else (none)) else (none)) else (if x5 = 0 then (none) else (some (x8, wrap64 (Int.tdiv x1 x5))))
end
def ratio_Parts.f (k : Nat) (l0 : List Int) (a1 : Int) : Option (List Int × Int) := ratio_Parts.l0 k l0 a1 a1 l0 (l0.length : Int) 0
theorem ratio_Parts.mono_l : ∀ k, (∀ y0 y1 y2 y3 y4 y5, LeO (ratio_Parts.l0 k y0 y1 y2 y3 y4 y5) (ratio_Parts.l0 (k + 1) y0 y1 y2 y3 y4 y5)) ∧ (∀ y0 y1 y2 y3 y4 y5, LeO (ratio_Parts.l1 k y0 y1 y2 y3 y4 y5) (ratio_Parts.l1 (k + 1) y0 y1 y2 y3 y4 y5))
  | 0 => ⟨fun _ _ _ _ _ _ r h => by simp [ratio_Parts.l0] at h, fun _ _ _ _ _ _ r h => by simp [ratio_Parts.l1] at h⟩
  | k + 1 => by
    obtain ⟨ih0, ih1⟩ := ratio_Parts.mono_l k
    refine ⟨?_, ?_⟩
    · intro y0 y1 y2 y3 y4 y5
      unfold ratio_Parts.l0
      repeat' first
      | (with_reducible exact ih0 _ _ _ _ _ _)
      | (with_reducible exact ih1 _ _ _ _ _ _)
      | (with_reducible exact ratio_divisor.mono _ _ _)
      | (with_reducible exact LeO.refl _)
      | (with_reducible exact LeO.none _)
      | (with_reducible refine LeO.ite ?_ ?_)
      | (with_reducible refine LeO.bind ?_ (fun _ => ?_))
      | exact ih0 _ _ _ _ _ _
      | exact ih1 _ _ _ _ _ _
      | exact ratio_divisor.mono _ _ _
      | exact LeO.none _
      | refine LeO.ite ?_ ?_
      | refine LeO.bind ?_ (fun _ => ?_)
    · intro y0 y1 y2 y3 y4 y5
      unfold ratio_Parts.l1
      repeat' first
      | (with_reducible exact ih0 _ _ _ _ _ _)
      | (with_reducible exact ih1 _ _ _ _ _ _)
      | (with_reducible exact ratio_divisor.mono _ _ _)
      | (with_reducible exact LeO.refl _)
      | (with_reducible exact LeO.none _)
      | (with_reducible refine LeO.ite ?_ ?_)
      | (with_reducible refine LeO.bind ?_ (fun _ => ?_))
      | exact ih0 _ _ _ _ _ _
      | exact ih1 _ _ _ _ _ _
      | exact ratio_divisor.mono _ _ _
      | exact LeO.none _
      | refine LeO.ite ?_ ?_
      | refine LeO.bind ?_ (fun _ => ?_)
theorem ratio_Parts.mono : ∀ a0 a1 k, LeO (ratio_Parts.f k a0 a1) (ratio_Parts.f (k + 1) a0 a1) := by
  intro a0 a1 k
  obtain ⟨ih0, ih1⟩ := ratio_Parts.mono_l k
  unfold ratio_Parts.f
  repeat' first
      | (with_reducible exact ih0 _ _ _ _ _ _)
      | (with_reducible exact ih1 _ _ _ _ _ _)
      | (with_reducible exact ratio_divisor.mono _ _ _)
      | (with_reducible exact LeO.refl _)
      | (with_reducible exact LeO.none _)
      | (with_reducible refine LeO.ite ?_ ?_)
      | (with_reducible refine LeO.bind ?_ (fun _ => ?_))
      | exact ih0 _ _ _ _ _ _
      | exact ih1 _ _ _ _ _ _
      | exact ratio_divisor.mono _ _ _
      | exact LeO.none _
      | refine LeO.ite ?_ ?_
      | refine LeO.bind ?_ (fun _ => ?_)
set_option maxHeartbeats 8000000 in
set_option maxRecDepth 100000 in
theorem ratio_Parts.calls (k : Nat) (A0 : Option Addr) (c0 : Nat) (l0 : List Int) (a1 : Int) (r1 : List Int) (r2 : Int) (w : World) (hr0 : Kd.C (Kd.int .i64) w A0 l0.length l0) (hc0 : l0.length ≤ c0) (h : ratio_Parts.f k l0 a1 = some (r1, r2)) :
  Calls Try.prog 80 #[.slice A0 l0.length c0, .int .i64 a1] w fun e w' => ∃ v0_ : Value, e = .returned (.agg #[v0_, .int .i64 r2]) ∧ Kd.R (Kd.int .i64) 3 w' w.heap.size (fun _ => True) v0_ r1 ∧ Below w.heap.size w w' := by
 have hu26 := Try.underlying26
 have HR0 := Aside0.mk hr0
 have HC0 := Aside0.mk hc0
 clear hr0 hc0
 have HB := Aside0.mk (Below.refl w.heap.size w)
 have H : (ratio_Parts.l0 k l0 a1 a1 l0 (l0.length : Int) 0) = some (r1, r2) := h
 clear h
 have H' := Aside0.mk H
 clear H
 go_enter Try.func80, Try.ntmps80
 go_wp2_with (first | ((with_reducible refine gate_dst (N := 4) rfl ?_); refine box_event ?hg (N := 4) ?hd (cs := #[.slice none 0 0, .int .i64 0]) (t := 26) ?hr ?_; (case hd => rfl); (case hg => rfl); (case hr => first | (go_simp; done) | (go_simp; rfl)); intro gb350 hg w3 hbox hb; have n0_ := Aside0.mk (below_step (by repeat (first | (with_reducible first | exact HB.out | apply below_alloc | apply pw_below_drewN | apply below_drew1) | exact HB.out)) hb); have n1_ := Aside0.mk (hbox); have n2_ := Aside0.mk ((by rw [hg]; exact (below_size (by repeat (first | (with_reducible first | exact HB.out | apply below_alloc | apply pw_below_drewN | apply below_drew1) | exact HB.out))) : w.heap.size ≤ gb350)); have n3_ := Aside0.mk ((by rw [hg]; exact (below_size (by repeat (first | (with_reducible first | exact HB.out | apply below_alloc | apply pw_below_drewN | apply below_drew1) | exact HB.out))) : w.heap.size ≤ gb350)); clear HB; have HB := n0_; have BK350 := n1_; have GW350 := n2_; have GE350 := n3_; clear n0_ n1_ n2_ n3_; clear hb hbox hg))
 go_loopg [5, 14] k (fun kq v5 v14 w' => ∃ (x5_1 : Int) (x14_1 : Int), v5 = .int .i64 x5_1 ∧ v14 = .int .i64 x14_1 ∧ Aside0 (ratio_Parts.l0 kq l0 a1 x5_1 l0 (l0.length : Int) x14_1 = some (r1, r2)) ∧ Aside0 (kq ≤ k) ∧ Aside0 (w'.heap[gb350]? = some (.cells #[(.slice none 0 0), .int .i64 0] 26 (0, 0))) ∧ Aside0 (Below w.heap.size w w'))
 case atStart => exact ⟨(a1), (0), (by first | rfl | (simp; done) | (simp [*]; done)), (by first | rfl | (simp; done) | (simp [*]; done)), H', ⟨Nat.le_refl _⟩, ⟨by (with_reducible repeat (first | refine blk_drewN ?_ _ | refine blk_drew ?_ | refine blk_alloc ?_ _)); exact BK350.out⟩, ⟨by repeat (first | (with_reducible first | exact HB.out | apply below_alloc | apply pw_below_drewN | apply below_drew1 | refine below_set ?_ GE350.out) | exact HB.out)⟩⟩
 case round =>
  clear H'
  try clear p2
  obtain ⟨x5_1, x14_1, rfl, rfl, HA, HK1, BK350, HB⟩ := hrel
  cases gk with
  | zero => exact absurd HA.out (by simp [ratio_Parts.l0])
  | succ k1 =>
   have H := HA.out
   clear HA
   simp only [ratio_Parts.l0] at H
   by_cases c4 : x14_1 < (l0.length : Int)
   ·rw [if_pos c4] at H
    have c4b0 : decide (x14_1 < (l0.length : Int)) = true := decide_eq_true c4
    clear c4
    by_cases c5 : 0 ≤ x14_1
    ·rw [if_pos c5] at H
     have c5b0 : decide (0 ≤ x14_1) = true := decide_eq_true c5
     clear c5
     by_cases c6 : x14_1 < (l0.length : Int)
     ·rw [if_pos c6] at H
      have c6b0 : decide (x14_1 < (l0.length : Int)) = true := decide_eq_true c6
      clear c6
      replace H := Option.bind_eq_some_iff.mp H
      obtain ⟨t352, A70, H⟩ := H
      replace H : (ratio_Parts.l0 k1 l0 a1 t352 l0 (l0.length : Int) (wrap64 (x14_1 + 1))) = some (r1, r2) := H
      have A7 := Aside0.mk A70
      clear A70
      have H' := Aside0.mk H
      clear H
      have p351 : 0 ≤ (x14_1 : Int) := of_decide_eq_true (by first | (with_reducible assumption) | assumption)
      have q351 : x14_1 < (l0.length : Int) := of_decide_eq_true (by first | (with_reducible assumption) | assumption)
      obtain ⟨ad351, e351, hx351_0⟩ := Kd.at_int HR0.out x14_1 p351 q351
      cases e351
      replace hx351_0 := (HB.out.cell (World.block_lt_of_cell? w _ hx351_0)).trans hx351_0
      replace p351 := eq_true p351
      replace q351 := eq_true q351
      go_wp2_with (first | ((with_reducible refine gate_callee (f := 99) rfl ?_); refine goesL_ (some 20) rfl rfl Try.func99 (by kernel_rfl) rfl #[.int .i64 x5_1, .int .i64 (rd l0 x14_1)] rfl (by (try simp only [List.map_toArray, List.map_cons, List.map_nil]); first | done | rfl | (simp only [List.length_drop, List.length_take]; rfl)) ?_; (with_reducible refine (ratio_divisor.calls k1 x5_1 (rd l0 x14_1) t352 _ A7.out).mono ?_); rintro e w8 ⟨rfl, hb⟩; refine ⟨_, rfl, ?_⟩; have n0_ := Aside0.mk (blk_below (g := gb350) (o := .cells #[.slice none 0 0, .int .i64 0] 26 (0, 0)) (by (with_reducible repeat (first | refine blk_drewN ?_ _ | refine blk_drew ?_ | refine blk_alloc ?_ _)); exact BK350.out) hb); have n1_ := Aside0.mk (below_step (by repeat (first | (with_reducible first | exact HB.out | apply below_alloc | apply pw_below_drewN | apply below_drew1 | refine below_set ?_ GE350.out) | exact HB.out)) hb); clear BK350; clear HB; have BK350 := n0_; have HB := n1_; clear n0_ n1_; (try clear hb); (try clear hb2); (try clear hk); (try clear hi)))
      go_roundg k1
      case measure => have := HK1.out; omega
      case rel => exact ⟨(t352), (wrap64 (x14_1 + 1)), (by first | rfl | (simp; done) | (simp [*]; done)), (by first | rfl | (simp; done) | (simp [*]; done)), H', ⟨by have := HK1.out; omega⟩, ⟨by (with_reducible repeat (first | refine blk_drewN ?_ _ | refine blk_drew ?_ | refine blk_alloc ?_ _)); exact BK350.out⟩, ⟨by repeat (first | (with_reducible first | exact HB.out | apply below_alloc | apply pw_below_drewN | apply below_drew1 | refine below_set ?_ GE350.out) | exact HB.out)⟩⟩
     ·rw [if_neg c6] at H
      exact absurd H (by simp)
    ·rw [if_neg c5] at H
     exact absurd H (by simp)
   ·rw [if_neg c4] at H
    have c4b0 : decide (x14_1 < (l0.length : Int)) = false := decide_eq_false c4
    clear c4
    obtain ⟨ji9, hji9⟩ : ∃ j_ : Int, (mx x5_1 (wrap64 (-x5_1))) = j_ := ⟨_, rfl⟩
    replace H : (if 0 ≤ (l0.length : Int) then (if ((l0.length : Int) : Int).toNat ≤ 35184372088832 then (ratio_Parts.l1 k1 a1 ji9 (List.replicate ((l0.length : Int) : Int).toNat 0) l0 (l0.length : Int) 0) else (none)) else (none)) = some (r1, r2) := by first | (rw [hji9] at H; exact H) | (simp only [hji9] at H ⊢; exact H)
    have hji9_ : (if x5_1 < (wrap64 (-x5_1)) then (wrap64 (-x5_1)) else x5_1) = ji9 := hji9
    by_cases c10 : 0 ≤ (l0.length : Int)
    ·rw [if_pos c10] at H
     have c10b0 := eq_true c10
     have c10b1 : decide (0 ≤ (l0.length : Int)) = true := decide_eq_true c10
     clear c10
     by_cases c11 : ((l0.length : Int) : Int).toNat ≤ 35184372088832
     ·rw [if_pos c11] at H
      have c11b0 := eq_true c11
      have c11b1 : decide (((l0.length : Int) : Int).toNat ≤ 35184372088832) = true := decide_eq_true c11
      clear c11
      obtain ⟨y353, hy353⟩ : ∃ y_ : List Int, y_ = (List.replicate ((l0.length : Int) : Int).toNat 0) := ⟨_, rfl⟩
      replace H : (ratio_Parts.l1 k1 a1 ji9 y353 l0 (l0.length : Int) 0) = some (r1, r2) := by first | (rw [hy353]; with_reducible exact H) | (have H2_ := (Option.bind_some _ _).symm.trans H; rw [hy353]; with_reducible exact H2_) | (have H2_ := (Option.bind_some _ _).symm.trans H; with_reducible exact H2_) | with_reducible exact H | (rw [hy353]; exact H) | exact H
      have Ny353 := Aside0.mk hy353
      clear hy353
      have H' := Aside0.mk H
      clear H
      go_wp2_with (first | ((with_reducible refine gate_dst (N := 28) rfl ?_); refine Kd.R_make (Kd.int .i64) _ 3 rfl (N := 28) rfl 24 _ _ rfl (l0.length : Int) rfl rfl Try.underlying24 (.int .i64 0) 8 info3 rfl (by decide) (by omega) 0 (ok := fun _ => True) (okp := fun _ => True) rfl (fun _ hk => hk) trivial (of_decide_eq_true (by first | (with_reducible assumption) | assumption)) (Nat.le_trans (Nat.mul_le_mul_right _ (of_decide_eq_true (by first | (with_reducible assumption) | assumption) : (l0.length : Int).toNat ≤ 35184372088832)) (by omega)) (Below.refl _ _) (Nat.le_refl _) ?_; intro v354 w12 ho13 hb hg_ hnew_; clear hg_ hnew_; (first | rw [← Ny353.out] at ho13 | (simp only [Int.reduceToNat] at ho13; rw [← Ny353.out] at ho13)); have n0_ := Aside0.mk (Kd.R_lower ho13 (below_size (by repeat (first | (with_reducible first | exact HB.out | apply below_alloc | apply pw_below_drewN | apply below_drew1 | refine below_set ?_ GE350.out) | exact HB.out)))); have n1_ := Aside0.mk (blk_below (g := gb350) (o := .cells #[.slice none 0 0, .int .i64 0] 26 (0, 0)) (by (with_reducible repeat (first | refine blk_drewN ?_ _ | refine blk_drew ?_ | refine blk_alloc ?_ _)); exact BK350.out) hb); have n2_ := Aside0.mk (below_step (by repeat (first | (with_reducible first | exact HB.out | apply below_alloc | apply pw_below_drewN | apply below_drew1 | refine below_set ?_ GE350.out) | exact HB.out)) hb); clear BK350; clear HB; have HO355 := n0_; have BK350 := n1_; have HB := n2_; clear n0_ n1_ n2_; clear hb ho13))
      go_loopg [31] k1 (fun kq v31 w' => ∃ (x8_2 : List Int) (x31_2 : Int), v31 = .int .i64 x31_2 ∧ Aside0 (ratio_Parts.l1 kq a1 ji9 x8_2 l0 (l0.length : Int) x31_2 = some (r1, r2)) ∧ Aside0 (kq ≤ k1) ∧ Aside0 (Kd.R (Kd.int .i64) 3 w' w.heap.size (fun _ => True) v354 x8_2) ∧ Aside0 (w'.heap[gb350]? = some (.cells #[(.slice none 0 0), .int .i64 0] 26 (0, 0))) ∧ Aside0 (Below w.heap.size w w'))
      case atStart => exact ⟨(y353), (0), (by first | rfl | (simp; done) | (simp [*]; done)), H', ⟨Nat.le_refl _⟩, ⟨by (with_reducible repeat (first | apply Kd.R_alloc | apply Kd.R_drewN | apply Kd.R_drew)); exact HO355.out⟩, ⟨by (with_reducible repeat (first | refine blk_drewN ?_ _ | refine blk_drew ?_ | refine blk_alloc ?_ _)); exact BK350.out⟩, ⟨by repeat (first | (with_reducible first | exact HB.out | apply below_alloc | apply pw_below_drewN | apply below_drew1 | refine below_set ?_ GE350.out) | exact HB.out)⟩⟩
      case round =>
       clear H'
       try clear c1
       try clear p2
       try clear p3
       try clear q3
       try clear hx3
       try clear c4
       try clear c4b0
       try clear c5
       try clear c5b0
       try clear c6
       try clear c6b0
       try clear p6
       try clear c8
       try clear c9
       try clear c10
       try clear c10b0
       try clear c10b1
       try clear c11
       try clear c11b0
       try clear c11b1
       try clear hx351_0
       try clear p2
       try clear p351
       try clear q351
       obtain ⟨x8_2, x31_2, rfl, HA, HK2, HO_8, BK350, HB⟩ := hrel
       cases gk with
       | zero => exact absurd HA.out (by simp [ratio_Parts.l1])
       | succ k2 =>
        have H := HA.out
        clear HA
        simp only [ratio_Parts.l1] at H
        by_cases c14 : x31_2 < (l0.length : Int)
        ·rw [if_pos c14] at H
         have c14b0 : decide (x31_2 < (l0.length : Int)) = true := decide_eq_true c14
         clear c14
         by_cases c15 : 0 ≤ x31_2
         ·rw [if_pos c15] at H
          have c15b0 : decide (0 ≤ x31_2) = true := decide_eq_true c15
          clear c15
          by_cases c16 : x31_2 < (l0.length : Int)
          ·rw [if_pos c16] at H
           have c16b0 : decide (x31_2 < (l0.length : Int)) = true := decide_eq_true c16
           clear c16
           by_cases c17 : ji9 = 0
           ·rw [if_pos c17] at H
            exact absurd H (by simp)
           ·rw [if_neg c17] at H
            have c17b0 : (ji9 == 0) = false := beq_eq_false_iff_ne.mpr c17
            have c17b1 : (ji9 != 0) = true := bne_iff_ne.mpr c17
            by_cases c18 : x31_2 < (x8_2.length : Int)
            ·rw [if_pos c18] at H
             have c18b0 : decide (x31_2 < (x8_2.length : Int)) = true := decide_eq_true c18
             clear c18
             obtain ⟨y357, hy357⟩ : ∃ y_ : List Int, y_ = (x8_2.set (x31_2 : Int).toNat (wrap64 (Int.tdiv (rd l0 x31_2) ji9))) := ⟨_, rfl⟩
             replace H : (ratio_Parts.l1 k2 a1 ji9 y357 l0 (l0.length : Int) (wrap64 (x31_2 + 1))) = some (r1, r2) := by first | (rw [hy357]; with_reducible exact H) | (have H2_ := (Option.bind_some _ _).symm.trans H; rw [hy357]; with_reducible exact H2_) | (have H2_ := (Option.bind_some _ _).symm.trans H; with_reducible exact H2_) | with_reducible exact H | (rw [hy357]; exact H) | exact H
             have Ny357 := Aside0.mk hy357
             clear hy357
             have H' := Aside0.mk H
             clear H
             have p356 : 0 ≤ (x31_2 : Int) := of_decide_eq_true (by first | (with_reducible assumption) | assumption)
             have q356 : x31_2 < (l0.length : Int) := of_decide_eq_true (by first | (with_reducible assumption) | assumption)
             obtain ⟨ad356, e356, hx356_0⟩ := Kd.at_int HR0.out x31_2 p356 q356
             cases e356
             replace hx356_0 := (HB.out.cell (World.block_lt_of_cell? w _ hx356_0)).trans hx356_0
             replace p356 := eq_true p356
             replace q356 := eq_true q356
             have p19 : 0 ≤ (x31_2 : Int) := of_decide_eq_true (by first | (with_reducible assumption) | assumption)
             have q19 : (x31_2 : Int) < ((x8_2.length : Int) : Int) := of_decide_eq_true (by first | (with_reducible assumption) | assumption)
             obtain ⟨go19, co19, eo19, gb19, gl19, cl19, HG19⟩ := Kd.R_form HO_8.out (by omega)
             (first | cases eo19 | (injection eo19 with ea_ en_ ec_; (first | subst ea_ | (injection ea_ with ea_; subst ea_)); subst ec_; clear en_))
             have GB19 := Aside0.mk gb19
             have GG19 := Aside0.mk HG19
             clear gb19 gl19 HG19
             obtain ⟨hx19_0, hf19_0⟩ := Kd.R_celln 0 HO_8.out (x31_2 : Int) p19 q19
             replace p19 := eq_true p19
             replace q19 := eq_true q19
             have HP20 := Kd.R_putg HO_8.out (x31_2 : Int) (wrap64 (Int.tdiv (rd l0 x31_2) ji9))
             go_wp2_with (first | ((with_reducible refine gate_store (t := 3) (p := 41) rfl ?_); refine store_event (t := 3) (p := 41) (v := ?vo_w21) (w1 := (wr.setCell ⟨go19, (x31_2 : Int).toNat, none⟩ (.int .i64 (wrap64 (Int.tdiv (rd l0 x31_2) ji9))))) ?hg ?ho ?hn ?hr ?_; (case ho => rfl); (case hg => rfl); (case hn => rfl); (case hr => first | (go_simp; done) | (go_simp; rfl)); intro w21 hw; have hg : wr.grownBy w21 (some go19) := (by rw [hw]; exact HP20.2); have hp_ : Kd.R (Kd.int .i64) 3 w21 w.heap.size (fun _ => True) (.slice (some ⟨go19, 0, none⟩) x8_2.length co19) y357 := (by rw [hw, Ny357.out]; exact HP20.1); clear HP20; have n0_ := Aside0.mk (hp_); have n1_ := Aside0.mk (blk_grown (g := gb350) (o := .cells #[.slice none 0 0, .int .i64 0] 26 (0, 0)) (by (with_reducible repeat (first | refine blk_drewN ?_ _ | refine blk_drew ?_ | refine blk_alloc ?_ _)); exact BK350.out) hg (Kd.R_ne HO_8.out BK350.out (by decide))); have n2_ := Aside0.mk ((by rw [hw]; exact below_set (HB.out) GB19.out : Below w.heap.size w w21)); clear HO_8; clear BK350; clear HB; have HO_8 := n0_; have BK350 := n1_; have HB := n2_; clear n0_ n1_ n2_; clear hg hw hp_))
             go_roundg k2
             case measure => have := HK1.out; have := HK2.out; omega
             case rel => exact ⟨(y357), (wrap64 (x31_2 + 1)), (by first | rfl | (simp; done) | (simp [*]; done)), H', ⟨by have := HK1.out; have := HK2.out; omega⟩, ⟨by (with_reducible repeat (first | apply Kd.R_alloc | apply Kd.R_drewN | apply Kd.R_drew)); exact HO_8.out⟩, ⟨by (with_reducible repeat (first | refine blk_drewN ?_ _ | refine blk_drew ?_ | refine blk_alloc ?_ _)); exact BK350.out⟩, ⟨by repeat (first | (with_reducible first | exact HB.out | apply below_alloc | apply pw_below_drewN | apply below_drew1 | refine below_set ?_ GE350.out) | exact HB.out)⟩⟩
            ·rw [if_neg c18] at H
             exact absurd H (by simp)
          ·rw [if_neg c16] at H
           exact absurd H (by simp)
         ·rw [if_neg c15] at H
          exact absurd H (by simp)
        ·rw [if_neg c14] at H
         have c14b0 : decide (x31_2 < (l0.length : Int)) = false := decide_eq_false c14
         clear c14
         by_cases c22 : ji9 = 0
         ·rw [if_pos c22] at H
          exact absurd H (by simp)
         ·rw [if_neg c22] at H
          have c22b0 : (ji9 == 0) = false := beq_eq_false_iff_ne.mpr c22
          have c22b1 : (ji9 != 0) = true := bne_iff_ne.mpr c22
          simp only [Option.some.injEq, Prod.mk.injEq] at H
          obtain ⟨rfl, rfl⟩ := H
          obtain ⟨Ao23, co23, eo23⟩ := Kd.R_slice HO_8.out
          subst eo23
          have hcz24_0 : wr.cell? ⟨gb350, 0, none⟩ = some (.slice none 0 0) := (blk_cell BK350.out 0).trans rfl
          have hcz24_1 : wr.cell? ⟨gb350, 1, none⟩ = some (.int .i64 0) := (blk_cell BK350.out 1).trans rfl
          have hfz24_0 := blk_frozen BK350.out 0
          have hfz24_1 := blk_frozen BK350.out 1
          go_wp2
          refine bodyPost_ret (results_cell_row rfl _ _ gb350 26 #[.slice Ao23 x8_2.length co23, .int .i64 (wrap64 (Int.tdiv a1 ji9))] (0, 0) _ rfl (by (with_reducible repeat (first | refine blk_drewN ?_ _ | refine blk_drew ?_ | refine blk_alloc ?_ _)); refine blk_put (cs := #[.slice Ao23 x8_2.length co23, .int .i64 0]) ?_ 1 _ rfl; (with_reducible repeat (first | refine blk_drewN ?_ _ | refine blk_drew ?_ | refine blk_alloc ?_ _)); refine blk_put (cs := #[.slice none 0 0, .int .i64 0]) ?_ 0 _ rfl; (with_reducible repeat (first | refine blk_drewN ?_ _ | refine blk_drew ?_ | refine blk_alloc ?_ _)); exact BK350.out) Try.underlying26 rfl (by kernel_rfl)) rfl ?_
          exact ⟨_, by first | rfl | (simp [errW_none, errW_some] <;> rfl) | (simp only [← hji9]; first | rfl | (simp [errW_none, errW_some] <;> rfl)) | (simp [*, errW_none, errW_some] <;> rfl), by (with_reducible repeat (first | apply Kd.R_alloc | apply Kd.R_drewN | apply Kd.R_drew)); exact Kd.R_mono (Kd.R_far (p := ⟨gb350, 1, none⟩) (Kd.R_far (p := ⟨gb350, 0, none⟩) (Kd.R_types HO_8.out BK350.out (by decide)) (fun _ hk => hk.2) (.slice Ao23 x8_2.length co23)) (fun _ hk => hk.2) (.int .i64 (wrap64 (Int.tdiv a1 ji9)))) (fun _ hk => trivial), by repeat (first | (with_reducible first | exact HB.out | apply below_alloc | apply pw_below_drewN | apply below_drew1 | refine below_set ?_ GE350.out) | exact HB.out)⟩
     ·rw [if_neg c11] at H
      exact absurd H (by simp)
    ·rw [if_neg c10] at H
     exact absurd H (by simp)
end Go.Proofs.Ytjgbdicbdlollaa.B
namespace Go.Proofs.Ytjgbdicbdlollaa.B
open Go.RowKit Go.Proofs.YtjgbdicbdlollaaW.PrintWords Go.Proofs.YtjgbdicbdlollaaW.PrintLast Go.Proofs.YtjgbdicbdlollaaW.PrintMore
set_option linter.unusedVariables false
set_option linter.unusedSimpArgs false
/-- A lane that stream refuses. -/
def badLane (x : S36) : Bool := decide (x.f0 < 0) || decide (10 < x.f0) || decide (x.f1 < 1) || decide (10 < x.f1)
def jam_stream.f (l : List S36) : Option Int := some (if 4 < l.length then 3 else if l = [] ∨ l.any badLane = true then 2 else 0)
set_option maxHeartbeats 800000 in
set_option maxRecDepth 100000 in
theorem bad_calls (x : S36) (w : World) : Calls Try.prog 76 #[.agg #[.int .i64 x.f0, .int .i64 x.f1]] w fun e w' => e = .returned (.bool (badLane x)) ∧ Below w.heap.size w w' := by
 have hu36 := Try.underlying36
 have HB := Aside0.mk (Below.refl w.heap.size w)
 obtain ⟨a, b⟩ := x
 unfold badLane
 simp only

 by_cases k1 : a < 0
 case pos =>
  have k1b : decide (a < 0) = true := decide_eq_true k1
  clear k1
  go_enter Try.func76, Try.ntmps76
  go_wp2_with (first | ((with_reducible refine gate_dst (N := 1) rfl ?_); refine box_event ?hg (N := 1) ?hd (cs := #[.int .i64 a, .int .i64 b]) (t := 36) ?hr ?_; (case hd => rfl); (case hg => rfl); (case hr => first | (go_simp; done) | (go_simp; rfl)); intro gb hg w1 hbox hb; have BB := Aside0.mk hbox; clear HB; have HB := Aside0.mk hb; clear hg hbox hb; have hb_0 : w1.cell? ⟨gb, 0, none⟩ = some (.int .i64 a) := (blk_cell BB.out 0).trans rfl; have hb_1 : w1.cell? ⟨gb, 1, none⟩ = some (.int .i64 b) := (blk_cell BB.out 1).trans rfl))
  go_ret
  exact ⟨by first | rfl | (simp only [k1b]; rfl) | (simp [k1b]; done), HB.out⟩
 have k1b : decide (a < 0) = false := decide_eq_false k1
 clear k1
 by_cases k2 : 10 < a
 case pos =>
  have k2b : decide (10 < a) = true := decide_eq_true k2
  clear k2
  go_enter Try.func76, Try.ntmps76
  go_wp2_with (first | ((with_reducible refine gate_dst (N := 1) rfl ?_); refine box_event ?hg (N := 1) ?hd (cs := #[.int .i64 a, .int .i64 b]) (t := 36) ?hr ?_; (case hd => rfl); (case hg => rfl); (case hr => first | (go_simp; done) | (go_simp; rfl)); intro gb hg w1 hbox hb; have BB := Aside0.mk hbox; clear HB; have HB := Aside0.mk hb; clear hg hbox hb; have hb_0 : w1.cell? ⟨gb, 0, none⟩ = some (.int .i64 a) := (blk_cell BB.out 0).trans rfl; have hb_1 : w1.cell? ⟨gb, 1, none⟩ = some (.int .i64 b) := (blk_cell BB.out 1).trans rfl))
  go_ret
  exact ⟨by first | rfl | (simp only [k1b, k2b]; rfl) | (simp [k1b, k2b]; done), HB.out⟩
 have k2b : decide (10 < a) = false := decide_eq_false k2
 clear k2
 by_cases k3 : b < 1
 case pos =>
  have k3b : decide (b < 1) = true := decide_eq_true k3
  clear k3
  go_enter Try.func76, Try.ntmps76
  go_wp2_with (first | ((with_reducible refine gate_dst (N := 1) rfl ?_); refine box_event ?hg (N := 1) ?hd (cs := #[.int .i64 a, .int .i64 b]) (t := 36) ?hr ?_; (case hd => rfl); (case hg => rfl); (case hr => first | (go_simp; done) | (go_simp; rfl)); intro gb hg w1 hbox hb; have BB := Aside0.mk hbox; clear HB; have HB := Aside0.mk hb; clear hg hbox hb; have hb_0 : w1.cell? ⟨gb, 0, none⟩ = some (.int .i64 a) := (blk_cell BB.out 0).trans rfl; have hb_1 : w1.cell? ⟨gb, 1, none⟩ = some (.int .i64 b) := (blk_cell BB.out 1).trans rfl))
  go_ret
  exact ⟨by first | rfl | (simp only [k1b, k2b, k3b]; rfl) | (simp [k1b, k2b, k3b]; done), HB.out⟩
 have k3b : decide (b < 1) = false := decide_eq_false k3
 clear k3
 by_cases k4 : 10 < b
 case pos =>
  have k4b : decide (10 < b) = true := decide_eq_true k4
  clear k4
  go_enter Try.func76, Try.ntmps76
  go_wp2_with (first | ((with_reducible refine gate_dst (N := 1) rfl ?_); refine box_event ?hg (N := 1) ?hd (cs := #[.int .i64 a, .int .i64 b]) (t := 36) ?hr ?_; (case hd => rfl); (case hg => rfl); (case hr => first | (go_simp; done) | (go_simp; rfl)); intro gb hg w1 hbox hb; have BB := Aside0.mk hbox; clear HB; have HB := Aside0.mk hb; clear hg hbox hb; have hb_0 : w1.cell? ⟨gb, 0, none⟩ = some (.int .i64 a) := (blk_cell BB.out 0).trans rfl; have hb_1 : w1.cell? ⟨gb, 1, none⟩ = some (.int .i64 b) := (blk_cell BB.out 1).trans rfl))
  go_ret
  exact ⟨by first | rfl | (simp only [k1b, k2b, k3b, k4b]; rfl) | (simp [k1b, k2b, k3b, k4b]; done), HB.out⟩
 have k4b : decide (10 < b) = false := decide_eq_false k4
 clear k4
 go_enter Try.func76, Try.ntmps76
 go_wp2_with (first | ((with_reducible refine gate_dst (N := 1) rfl ?_); refine box_event ?hg (N := 1) ?hd (cs := #[.int .i64 a, .int .i64 b]) (t := 36) ?hr ?_; (case hd => rfl); (case hg => rfl); (case hr => first | (go_simp; done) | (go_simp; rfl)); intro gb hg w1 hbox hb; have BB := Aside0.mk hbox; clear HB; have HB := Aside0.mk hb; clear hg hbox hb; have hb_0 : w1.cell? ⟨gb, 0, none⟩ = some (.int .i64 a) := (blk_cell BB.out 0).trans rfl; have hb_1 : w1.cell? ⟨gb, 1, none⟩ = some (.int .i64 b) := (blk_cell BB.out 1).trans rfl))
 go_ret
 exact ⟨by first | rfl | (simp only [k1b, k2b, k3b, k4b]; rfl) | (simp [k1b, k2b, k3b, k4b]; done), HB.out⟩
set_option maxHeartbeats 800000 in
set_option maxRecDepth 100000 in
theorem index_calls (A : Option Addr) (c : Nat) (l : List S36) (w : World) (hr : Kd.C k36 w A l.length l) (hl : l.length < 1000000) :
  Calls Try.prog 96 #[.slice A l.length c, .func (.func 76) #[] #[]] w fun e w' => ∃ r : Int, e = .returned (.int .i64 r) ∧ decide (0 ≤ r) = l.any badLane ∧ Below w.heap.size w w' := by
 have hu36 := Try.underlying36
 have HR := Aside0.mk hr
 have HL := Aside0.mk hl
 have HB := Aside0.mk (Below.refl w.heap.size w)
 clear hr hl
 go_enter Try.func96, Try.ntmps96
 go_wp2
 go_loopg [8] l.length (fun kq v8 w' => ∃ i : Nat, v8 = .int .i64 (i : Int) ∧ Aside0 (i + kq = l.length) ∧ Aside0 (∀ a : Nat, a < i → badLane (rd_T36 l (a : Int)) = false) ∧ Aside0 (Below w.heap.size w w'))
 case atStart => exact ⟨0, rfl, ⟨by simp⟩, ⟨fun a h => absurd h (Nat.not_lt_zero _)⟩, HB⟩
 case round =>
  clear HB
  obtain ⟨i, rfl, HI, HA, HB⟩ := hrel
  cases gk with
  | zero =>
   have hi := HI.out
   have c4b : decide ((i : Int) < (l.length : Int)) = false := decide_eq_false (by omega)
   have c4b2 : decide (i < l.length) = false := decide_eq_false (by omega)
   have HF := Aside0.mk (show l.any badLane = false by
    rw [List.any_eq_false]
    intro x hx
    obtain ⟨j, hj, rfl⟩ := List.getElem_of_mem hx
    have := HA.out j (by omega)
    simpa [rd_T36, List.getD, List.getElem?_eq_getElem hj] using this)
   clear hi
   go_wp2
   go_ret
   exact ⟨-1, by first | rfl | (simp; done), by rw [HF.out]; rfl, HB.out⟩
  | succ k1 =>
   have hi0 : (0 : Int) ≤ (i : Int) := Int.natCast_nonneg _
   have hi1 : (i : Int) < (l.length : Int) := by have := HI.out; omega
   have c4b : decide ((i : Int) < (l.length : Int)) = true := decide_eq_true hi1
   have c4b2 : decide (i < l.length) = true := decide_eq_true (by omega)
   have hi2 : (i < l.length) = True := eq_true (by omega)
   have HIL := Aside0.mk (show i < l.length by have := HI.out; omega)
   obtain ⟨ad, e, hx_0, hx_1⟩ := at_T36 HR.out (i : Int) hi0 hi1
   cases e
   obtain ⟨x, hx⟩ : ∃ x, rd_T36 l (i : Int) = x := ⟨_, rfl⟩
   have HX := Aside0.mk hx
   rw [hx] at hx_0 hx_1
   clear hx
   simp only [Int.toNat_natCast] at hx_0 hx_1
   replace hx_0 := (HB.out.cell (World.block_lt_of_cell? w _ hx_0)).trans hx_0
   replace hx_1 := (HB.out.cell (World.block_lt_of_cell? w _ hx_1)).trans hx_1
   replace hi0 := eq_true hi0
   replace hi1 := eq_true hi1
   cases hbd : badLane x with
   | true =>
    have HBD := Aside0.mk hbd
    clear hbd
    go_wp2_with (first | (go_at_call 76; (refine (bad_calls x _).mono ?_); rintro e w5 ⟨rfl, hb⟩; rw [HBD.out]; have n0_ := Aside0.mk (below_step HB.out hb); clear HB hb; have HB := n0_; clear n0_))
    go_ret
    exact ⟨(i : Int), by first | rfl | (simp; done), by
     rw [decide_eq_true (Int.natCast_nonneg _)]
     symm
     rw [List.any_eq_true]
     exact ⟨l[i]'HIL.out, List.getElem_mem _, by have h1 := HX.out; have h2 := HIL.out; have h3 := HBD.out; rw [← h1] at h3; simpa [rd_T36, List.getD, List.getElem?_eq_getElem h2] using h3⟩, HB.out⟩
   | false =>
    have HBD := Aside0.mk hbd
    clear hbd
    go_wp2_with (first | (go_at_call 76; (refine (bad_calls x _).mono ?_); rintro e w5 ⟨rfl, hb⟩; rw [HBD.out]; have n0_ := Aside0.mk (below_step HB.out hb); clear HB hb; have HB := n0_; clear n0_))
    go_roundg k1
    case measure => omega
    case rel => exact ⟨i + 1, val_succ i (by have := HIL.out; have := HL.out; omega), ⟨by have := HI.out; omega⟩, ⟨fun a ha => by rcases Nat.lt_or_ge a i with h | h; exact HA.out a h; (have : a = i := by omega); rw [this, HX.out]; exact HBD.out⟩, HB⟩
set_option maxHeartbeats 800000 in
set_option maxRecDepth 100000 in
theorem contains_calls (A : Option Addr) (c : Nat) (l : List S36) (w : World) (hr : Kd.C k36 w A l.length l) (hl : l.length < 1000000) :
  Calls Try.prog 75 #[.slice A l.length c, .func (.func 76) #[] #[]] w fun e w' => e = .returned (.bool (l.any badLane)) ∧ Below w.heap.size w w' := by
 have HR := Aside0.mk hr
 have HL := Aside0.mk hl
 have HB := Aside0.mk (Below.refl w.heap.size w)
 clear hr hl
 go_enter Try.func75, Try.ntmps75
 go_wp2_with (first | (go_at_call 96; (refine (index_calls A c l _ (Kd.C_below HR.out HB.out) HL.out).mono ?_); rintro e w5 ⟨r, rfl, hd, hb⟩; have HD := Aside0.mk hd; have n0_ := Aside0.mk (below_step HB.out hb); clear HB hb hd; have HB := n0_; clear n0_))
 go_ret
 exact ⟨by rw [← HD.out]; first | rfl | (simp; done), HB.out⟩
set_option maxHeartbeats 800000 in
set_option maxRecDepth 100000 in
theorem jam_stream.calls (A0 : Option Addr) (c0 : Nat) (l0 : List S36) (r : Int) (w : World) (hr0 : Kd.C k36 w A0 l0.length l0) (hc0 : l0.length ≤ c0) (h : jam_stream.f l0 = some r) :
  Calls Try.prog 48 #[.slice A0 l0.length c0] w fun e w' => e = .returned (.int .i64 r) ∧ Below w.heap.size w w' := by
 unfold jam_stream.f at h
 obtain rfl := Option.some.inj h
 have HR := Aside0.mk hr0
 have HB := Aside0.mk (Below.refl w.heap.size w)
 clear hr0 h
 by_cases k1 : 4 < l0.length
 ·have d1 : decide (4 < (l0.length : Int)) = true := decide_eq_true (by omega)
  have d2 : decide (4 < l0.length) = true := decide_eq_true k1
  rw [if_pos k1]
  clear k1
  go_enter Try.func48, Try.ntmps48
  go_wp2
  go_ret
  exact ⟨by first | rfl | (simp; done), HB.out⟩
 have d1 : decide (4 < (l0.length : Int)) = false := decide_eq_false (by omega)
 have d2 : decide (4 < l0.length) = false := decide_eq_false k1
 have HL := Aside0.mk (show l0.length < 1000000 by omega)
 rw [if_neg k1]
 clear k1
 by_cases k2 : l0 = []
 ·subst k2
  rw [if_pos (.inl rfl)]
  go_enter Try.func48, Try.ntmps48
  go_wp2
  go_ret
  exact ⟨by first | rfl | (simp; done), HB.out⟩
 have hne : l0.length ≠ 0 := fun h => k2 (List.length_eq_zero_iff.1 h)
 have d3 : ((l0.length : Int) == 0) = false := beq_eq_false_iff_ne.mpr (by omega)
 have d4 : (l0.length == 0) = false := beq_eq_false_iff_ne.mpr hne
 have d5 : decide (l0.length = 0) = false := decide_eq_false hne
 have d6 : decide (l0 = []) = false := decide_eq_false k2
 cases hb : l0.any badLane with
 | true =>
  rw [if_pos (.inr rfl)]
  have HBD := Aside0.mk hb
  clear hb hne
  go_enter Try.func48, Try.ntmps48
  go_wp2_with (first | (go_at_call 75; (refine (contains_calls A0 c0 l0 _ (Kd.C_below HR.out HB.out) HL.out).mono ?_); rintro e w5 ⟨rfl, hb⟩; rw [HBD.out]; have n0_ := Aside0.mk (below_step HB.out hb); clear HB hb; have HB := n0_; clear n0_))
  go_ret
  exact ⟨by first | rfl | (simp; done), HB.out⟩
 | false =>
  rw [if_neg (by rintro (h | h); exact k2 h; cases h)]
  have HBD := Aside0.mk hb
  clear hb hne
  go_enter Try.func48, Try.ntmps48
  go_wp2_with (first | (go_at_call 75; (refine (contains_calls A0 c0 l0 _ (Kd.C_below HR.out HB.out) HL.out).mono ?_); rintro e w5 ⟨rfl, hb⟩; rw [HBD.out]; have n0_ := Aside0.mk (below_step HB.out hb); clear HB hb; have HB := n0_; clear n0_))
  go_ret
  exact ⟨by first | rfl | (simp; done), HB.out⟩
end Go.Proofs.Ytjgbdicbdlollaa.B
namespace Go.Proofs.Ytjgbdicbdlollaa.B
open Go.RowKit Go.Proofs.YtjgbdicbdlollaaW.PrintWords Go.Proofs.YtjgbdicbdlollaaW.PrintLast Go.Proofs.YtjgbdicbdlollaaW.PrintMore
set_option linter.unusedVariables false
set_option linter.unusedSimpArgs false
def lanes_Clone.f (l0 : List S36) : Option (List S36) := if l0.length < 1000000 then some l0 else none
set_option maxHeartbeats 800000 in
set_option maxRecDepth 100000 in
theorem lanes_Clone.calls (A0 : Option Addr) (c0 : Nat) (l0 : List S36) (r : List S36) (w : World) (hr0 : Kd.C k36 w A0 l0.length l0) (hc0 : l0.length ≤ c0) (h : lanes_Clone.f l0 = some r) :
  Calls Try.prog 77 #[.slice A0 l0.length c0] w fun e w' => ∃ v0_ : Value, e = .returned (v0_) ∧ Kd.R k36 36 w' w.heap.size (fun _ => True) v0_ r ∧ Below w.heap.size w w' := by
 have HR0 := Aside0.mk hr0
 clear hr0
 have qT : ∀ (w : World) (a : Option Addr) (n c n' c' : Nat), (binOp .eql 22 (.slice a n c) (.slice none n' c')).run Try.prog w = .ok (.bool a.isNone) w := fun w a n c n' c' => Lib.run_eql_slice_nil w _ _ a n c n' c' Try.underlying22
 unfold lanes_Clone.f at h
 split at h
 case isFalse => exact absurd h (by simp)
 rename_i hl
 obtain rfl := Option.some.inj h
 clear h
 have HB := Aside0.mk (Below.refl w.heap.size w)
 rcases A0 with _ | ad
 ·obtain rfl : l0 = [] := by
   obtain ⟨inner, h1, h2⟩ := HR0.out
   rcases l0 with _ | ⟨x, l⟩
   ·rfl
   ·obtain ⟨ad, c, e, _⟩ := Kd.C_get HR0.out z36 0 (by omega) (by simp)
    exact absurd e (by simp)
  go_enter Try.func77, Try.ntmps77
  go_wp2
  go_ret
  exact ⟨_, rfl, Kd.R_nil _ _ _ _ _, by repeat (first | exact Below.refl _ _ | apply below_alloc)⟩
 ·go_enter Try.func77, Try.ntmps77
  go_wp2_with (first | ((with_reducible refine gate_dst (N := 5) rfl ?_); refine Kd.R_lit k36 _ 36 ?hg (N := 5) ?hd (xs := ([] : List S36)) (inner := []) (ok := fun _ => True) (okp := fun _ => True) ?hr ?hp (fun _ hk => hk) trivial (Below.refl _ _) (Nat.le_refl _) (by simp) ?_; (case hd => rfl); (case hg => rfl); (case hr => first | (go_simp; done) | (go_simp; rfl)); (case hp => exact (Reps.none _ _)); intro v5 w1 ho2 hb hg_ hnew_; have HO := Aside0.mk ho2; have HB1 := Aside0.mk hb; clear ho2 hb hg_ hnew_) | ((with_reducible refine gate_dst (N := 7) rfl ?_); refine Kd.R_append_rows k36 (w0 := w) w.heap.size rfl (.tmp 5) (.tmp 6) 22 36 (.agg #[(.int .i64 0), (.int .i64 0)]) 16 rfl Try.underlying22 info36 rfl (by decide) (by omega) v5 ([] : List S36) l0 _ _ _ (fun _ => True) (fun _ => False) rfl rfl ?aO ?aR (fun _ _ h => h) (fun _ h => h.elim) ?aF ?aB ?aS ?aL ?_; (case aR => exact Kd.C_below HR0.out HB1.out); (case aB => exact HB1.out); (case aF => exact (fun _ _ => trivial)); (case aO => exact HO.out); (case aS => exact HB1.out.size); (case aL => simp; omega); intro v7 w2 ho2 hb hg_ hat_; have HO2 := Aside0.mk ho2; have HB2 := Aside0.mk hb; clear ho2 hb hg_ hat_))
  go_ret
  exact ⟨_, rfl, by simpa using HO2.out, HB2.out⟩
end Go.Proofs.Ytjgbdicbdlollaa.B
namespace Go.Proofs
open Go.Shelf Go.RowKit Go.Lib Go.Sort
def Ytjgbdicbdlollaa.B.layLanes_ren : Go.Shelf.Ren := ⟨fun | 6 => 78 | 15 => 98 | 14 => 97 | 28 => 114 | 29 => 115 | 20 => 106 | 21 => 107 | 22 => 108 | 23 => 109 | 24 => 110 | 25 => 111 | 26 => 112 | 27 => 113 | 46 => 120 | 47 => 121 | 48 => 122 | 49 => 123 | 50 => 124 | 57 => 125 | n => n, fun | 22 => 22 | 24 => 36 | 25 => 111 | 3 => 3 | 39 => 127 | 0 => 0 | 53 => 143 | 55 => 145 | 4 => 4 | 46 => 136 | 45 => 135 | 50 => 140 | 5 => 5 | 9 => 9 | 66 => 148 | 70 => 152 | 76 => 154 | 77 => 155 | n => n, fun | n => n⟩
theorem Ytjgbdicbdlollaa.B.layLanes : Go.Proofs.SlLaysF0.n6 Try.prog Ytjgbdicbdlollaa.B.layLanes_ren where
  mixed := by kernel_rfl
  f6 := ⟨Try.f78.name, by kernel_rfl, Try.func78.trans (congrArg some (by kernel_rfl))⟩
  f14 := ⟨Try.f97.name, by kernel_rfl, Try.func97.trans (congrArg some (by kernel_rfl))⟩
  f15 := Try.func98.trans (congrArg some (by kernel_rfl))
  f20 := ⟨Try.f106.name, by kernel_rfl, Try.func106.trans (congrArg some (by kernel_rfl))⟩
  f21 := ⟨Try.f107.name, by kernel_rfl, Try.func107.trans (congrArg some (by kernel_rfl))⟩
  f22 := ⟨Try.f108.name, by kernel_rfl, Try.func108.trans (congrArg some (by kernel_rfl))⟩
  f23 := ⟨Try.f109.name, by kernel_rfl, Try.func109.trans (congrArg some (by kernel_rfl))⟩
  f24 := ⟨Try.f110.name, by kernel_rfl, Try.func110.trans (congrArg some (by kernel_rfl))⟩
  f25 := ⟨Try.f111.name, by kernel_rfl, Try.func111.trans (congrArg some (by kernel_rfl))⟩
  f26 := ⟨Try.f112.name, by kernel_rfl, Try.func112.trans (congrArg some (by kernel_rfl))⟩
  f27 := ⟨Try.f113.name, by kernel_rfl, Try.func113.trans (congrArg some (by kernel_rfl))⟩
  f28 := Try.func114.trans (congrArg some (by kernel_rfl))
  f29 := Try.func115.trans (congrArg some (by kernel_rfl))
  f46 := ⟨Try.f120.name, by kernel_rfl, Try.func120.trans (congrArg some (by kernel_rfl))⟩
  f47 := Try.func121.trans (congrArg some (by kernel_rfl))
  f48 := Try.func122.trans (congrArg some (by kernel_rfl))
  f49 := ⟨Try.f123.name, by kernel_rfl, Try.func123.trans (congrArg some (by kernel_rfl))⟩
  f50 := ⟨Try.f124.name, by kernel_rfl, Try.func124.trans (congrArg some (by kernel_rfl))⟩
  f57 := ⟨Try.f125.name, by kernel_rfl, Try.func125.trans (congrArg some (by kernel_rfl))⟩
  t0 := Try.underlying0
  a0 := Try.isAgg0
  z0 := Try.sizeOf0
  v0 := Try.zeroValue0
  t3 := Try.underlying3
  a3 := Try.isAgg3
  z3 := Try.sizeOf3
  v3 := Try.zeroValue3
  t4 := Try.underlying4
  a4 := Try.isAgg4
  z4 := Try.sizeOf4
  v4 := Try.zeroValue4
  t5 := Try.underlying5
  a5 := Try.isAgg5
  z5 := Try.sizeOf5
  v5 := Try.zeroValue5
  t9 := Try.underlying9
  a9 := Try.isAgg9
  z9 := Try.sizeOf9
  v9 := Try.zeroValue9
  t22 := Try.underlying22
  a22 := Try.isAgg22
  z22 := Try.sizeOf22
  v22 := Try.zeroValue22
  t25 := Try.underlying111
  a25 := Try.isAgg111
  z25 := Try.sizeOf111
  v25 := Try.zeroValue111
  t39 := Try.underlying127
  a39 := Try.isAgg127
  z39 := Try.sizeOf127
  v39 := Try.zeroValue127
  t45 := Try.underlying135
  a45 := Try.isAgg135
  z45 := Try.sizeOf135
  v45 := Try.zeroValue135
  t46 := Try.underlying136
  a46 := Try.isAgg136
  z46 := Try.sizeOf136
  v46 := Try.zeroValue136
  t50 := Try.underlying140
  a50 := Try.isAgg140
  z50 := Try.sizeOf140
  v50 := Try.zeroValue140
  t53 := Try.underlying143
  a53 := Try.isAgg143
  z53 := Try.sizeOf143
  v53 := Try.zeroValue143
  t55 := Try.underlying145
  a55 := Try.isAgg145
  z55 := Try.sizeOf145
  v55 := Try.zeroValue145
  t66 := Try.underlying148
  a66 := Try.isAgg148
  z66 := Try.sizeOf148
  v66 := Try.zeroValue148
  t70 := Try.underlying152
  a70 := Try.isAgg152
  z70 := Try.sizeOf152
  v70 := Try.zeroValue152
  t76 := Try.underlying154
  a76 := Try.isAgg154
  z76 := Try.sizeOf154
  v76 := Try.zeroValue154
  t77 := Try.underlying155
  a77 := Try.isAgg155
  z77 := Try.sizeOf155
  v77 := Try.zeroValue155
end Go.Proofs
namespace Go.Proofs.Ytjgbdicbdlollaa.B
open Go.RowKit Go.Sort Go.Proofs.YtjgbdicbdlollaaW.PrintWords Go.Proofs.YtjgbdicbdlollaaW.PrintLast Go.Proofs.YtjgbdicbdlollaaW.PrintMore
set_option linter.unusedVariables false
set_option linter.unusedSimpArgs false
/-- A lane whose A is a rate. -/
structure Ln where
  x : S36
  h : 0 ≤ x.f0 ∧ x.f0 ≤ 10
instance : Inhabited Ln := ⟨⟨⟨0, 0⟩, by decide⟩⟩
def encLn (d : Ln) : List Value := [.int .i64 d.x.f0, .int .i64 d.x.f1]
def cfLn (a b : Ln) : Int := a.x.f0 - b.x.f0
def lnsOf : List S36 → Option (List Ln)
  | [] => some []
  | x :: l => if h : 0 ≤ x.f0 ∧ x.f0 ≤ 10 then (lnsOf l).bind fun ds => some (⟨x, h⟩ :: ds) else none
theorem lnsOf_map : ∀ {l : List S36} {ds : List Ln}, lnsOf l = some ds → ds.map Ln.x = l
  | [], ds, h => by simp [lnsOf] at h; subst h; rfl
  | x :: l, ds, h => by
    unfold lnsOf at h
    split at h
    case isFalse => exact absurd h (by simp)
    obtain ⟨ds2, h2, h⟩ := Option.bind_eq_some_iff.1 h
    obtain rfl := Option.some.inj h
    simp [lnsOf_map h2]
def sortLn (ds : List Ln) : Array Ln := Go.Sort.insertionSort (ltOf cfLn) ds.toArray 0 ds.toArray.size
def lanes_Sorted.f (l : List S36) : Option (List S36) := if 1 ≤ l.length ∧ l.length ≤ 12 then (lnsOf l).bind fun ds => some ((sortLn ds).toList.map Ln.x) else none
theorem lanes_clone_of {l l' : List S36} (h : lanes_Sorted.f l = some l') : lanes_Clone.f l = some l := by
  unfold lanes_Sorted.f at h
  split at h
  case isFalse => exact absurd h (by simp)
  rename_i h12
  unfold lanes_Clone.f
  rw [if_pos (by omega)]
theorem lanes_Sorted.mono : ∀ l, LeO (lanes_Sorted.f l) (lanes_Sorted.f l) := fun _ => LeO.refl _
theorem swo_cfLn : SWO (ltOf cfLn) where
  irrefl x := by simp [ltOf, cfLn]
  trans x y z h1 h2 := by
    unfold ltOf cfLn at *
    simp only [decide_eq_true_eq] at *
    omega
  ntrans x y z h1 h2 := by
    unfold ltOf cfLn at *
    simp only [decide_eq_false_iff_not] at *
    omega
set_option maxHeartbeats 1000000 in
theorem closure79 (x y : Ln) (W : World) : Calls Try.prog 79 #[.agg #[.int .i64 x.x.f0, .int .i64 x.x.f1], .agg #[.int .i64 y.x.f0, .int .i64 y.x.f1]] W fun e w' => e = .returned (.int .i64 (cfLn x y)) ∧ ∃ q os', w' = grow (W.drewN q) os' := by
 obtain ⟨⟨a, b⟩, h⟩ := x
 obtain ⟨⟨c, d⟩, h2⟩ := y
 unfold cfLn
 simp only at h h2 ⊢
 have e : wrap64 (a - c) = a - c := by unfold wrap64; omega
 rw [← e]
 clear e h h2
 go_enter Try.func79, Try.ntmps79
 go_wp2
 go_ret
 exact ⟨rfl, 0, _, by rw [alloc_eq_grow, alloc_eq_grow, grow_grow]; rfl⟩
set_option maxHeartbeats 1000000 in
theorem len_calls (n : Nat) (W : World) (h : n ≤ 12) : Calls Try.prog 98 #[.int .u64 n] W fun e w' => (∃ l : Int, e = .returned (.int .i64 l)) ∧ w' = W := by
 have hn : n = 0 ∨ n = 1 ∨ n = 2 ∨ n = 3 ∨ n = 4 ∨ n = 5 ∨ n = 6 ∨ n = 7 ∨ n = 8 ∨ n = 9 ∨ n = 10 ∨ n = 11 ∨ n = 12 := by omega
 clear h
 rcases hn with rfl | rfl | rfl | rfl | rfl | rfl | rfl | rfl | rfl | rfl | rfl | rfl | rfl
 all_goals
  go_enter Try.func98, Try.ntmps98
  go_wp2
  go_ret
  exact ⟨⟨_, rfl⟩, rfl⟩
section
variable {w : World} {g base n cap k : Nat} {e : TypeId}
theorem own_holdsK {d : Array Value} (h : w.ownsRow base e k (.slice (some ⟨g, 0, none⟩) n cap) n d.toList) : Holds id w g 0 d ∧ g < w.heap.size := by
  refine ⟨fun j hj => ?_, own_lt h g rfl⟩
  rw [Nat.zero_add]
  refine ⟨?_, ?_⟩
  · have hc := h.cells (g := g) rfl j d[j]! (by simp [hj])
    rwa [add_plain] at hc
  · rcases h.2 with ⟨h', _⟩ | ⟨g', cap', cur, h', _, hh, _⟩
    · cases h'
    · have : g = g' := by injection h' with h'; injection h' with h'; injection h' with h'
      subst this
      simp [World.frozen?, hh]
theorem putCells_takeV (d : Array Value) (cur : Array Value) (h : d.size ≤ cur.size) : (putCells id 0 d cur).toList.take d.size = d.toList := by
  apply List.ext_getElem?
  intro i
  rw [List.getElem?_take]
  by_cases hi : i < d.size
  · rw [if_pos hi]
    simp only [putCells, Array.getElem?_toList, Array.getElem?_mapIdx]
    rw [Array.getElem?_eq_getElem (show i < cur.size by omega), Array.getElem?_eq_getElem hi]
    simp [hi]
  · rw [if_neg hi]
    symm
    simp; omega
theorem putRow_blockV {cur : Array Value} (hh : w.heap[g]? = some (.cells cur e (0, 0))) (q : Nat) (d : Array Value) (os : Array Obj) :
    (Go.Sort.grow (putRow id (Go.Sort.ahead w q) g 0 d) os).heap[g]? = some (.cells (putCells id 0 d cur) e (0, 0)) ∧ w.grownBy (Go.Sort.grow (putRow id (Go.Sort.ahead w q) g 0 d) os) (some g) := by
  have hlt := (Array.getElem?_eq_some_iff.1 hh).1
  refine ⟨?_, ?_⟩
  · rw [heap_grow_old _ _ (by simpa [putRow, mapBlock, Go.Sort.ahead] using hlt)]
    simp [putRow, mapBlock, Go.Sort.ahead, Array.getElem?_modify, hh, onCells]
  · refine ⟨rfl, rfl, rfl, by simp [putRow, mapBlock, Go.Sort.ahead], fun k hk hne => ?_⟩
    rw [heap_grow_old _ _ (by simpa [putRow, mapBlock, Go.Sort.ahead] using hk)]
    simp only [putRow, mapBlock, Go.Sort.ahead, Array.getElem?_modify]
    rw [if_neg (fun h => hne (by rw [h]))]
theorem own_putK {inner : List Value} (h : w.ownsRow base e k (.slice (some ⟨g, 0, none⟩) n cap) n inner) (q : Nat) (d : Array Value) (hd : d.size = n * k) (os : Array Obj) :
    (Go.Sort.grow (putRow id (Go.Sort.ahead w q) g 0 d) os).ownsRow base e k (.slice (some ⟨g, 0, none⟩) n cap) n d.toList ∧ w.grownBy (Go.Sort.grow (putRow id (Go.Sort.ahead w q) g 0 d) os) (some g) := by
  obtain ⟨h1, h2⟩ := h
  rcases h2 with ⟨h2, _⟩ | ⟨g', cap', cur, h2, hb, hh, hc, hm, hs, ht⟩
  · cases h2
  · injection h2 with h2 _ h3
    injection h2 with h2
    injection h2 with h2
    subst h2 h3
    obtain ⟨hp1, hp2⟩ := putRow_blockV hh q d os
    refine ⟨⟨by simp [hd], .inr ⟨g, cap, _, rfl, hb, hp1, hc, hm, by simp [putCells, hs], ?_⟩⟩, hp2⟩
    rw [← hd]
    exact putCells_takeV d cur (by rw [hd, hs]; exact Nat.mul_le_mul_right _ hc)
end
theorem enc_flat (d : Array Ln) (j : Nat) (hj : j < d.size) : ((flatK encLn 2 d).toList.drop (j * 2)).take 2 = encLn d[j]! := by
  apply List.ext_getElem?
  intro i
  rw [List.getElem?_take, List.getElem?_drop]
  by_cases hi : i < 2
  · rw [if_pos hi]
    have h1 : j * 2 + i < (flatK encLn 2 d).size := by rw [size_flatK]; omega
    have h2 := get_flatK encLn 2 d (j * 2 + i) (by omega)
    rw [getElem!_pos (flatK encLn 2 d) _ h1] at h2
    rw [Array.getElem?_toList, Array.getElem?_eq_getElem h1, h2, show (j * 2 + i) / 2 = j by omega, show (j * 2 + i) % 2 = i by omega]
    rcases (show i = 0 ∨ i = 1 by omega) with rfl | rfl <;> rfl
  · rw [if_neg hi]
    symm
    simp [encLn]; omega
theorem inner_flat {w : World} {base : Nat} {ok : Nat → Prop} {ds : List Ln} {inner : List Value} (hr : Reps (k36.M w base ok) 2 (ds.map Ln.x) inner) : inner = (flatK encLn 2 ds.toArray).toList := by
  have hl : inner.length = ds.length * 2 := by have := hr.1; simpa using this
  apply List.ext_getElem?
  intro t
  by_cases ht : t < ds.length * 2
  · have hj : t / 2 < ds.length := by omega
    have h1 := hr.2 (t / 2) ds[t / 2].x (by simp [hj])
    have h2 := k36_openM h1
    have h3 := enc_flat ds.toArray (t / 2) (by simpa using hj)
    have e1 : ds.toArray[t / 2]! = ds[t / 2] := by simp [hj]
    rw [e1] at h3
    have h4 : ((inner.drop (t / 2 * 2)).take 2)[t % 2]? = (((flatK encLn 2 ds.toArray).toList.drop (t / 2 * 2)).take 2)[t % 2]? := by rw [h2, h3]; rfl
    rw [List.getElem?_take, List.getElem?_take, if_pos (by omega), if_pos (by omega), List.getElem?_drop, List.getElem?_drop, show t / 2 * 2 + t % 2 = t by omega] at h4
    exact h4
  · rw [List.getElem?_eq_none (by omega), List.getElem?_eq_none (by simp; omega)]
theorem sortLanes_calls (A : Option Addr) (c : Nat) (l l' : List S36) (base : Nat) (w : World) (hR : Kd.R k36 36 w base (fun _ => True) (.slice A l.length c) l) (h : lanes_Sorted.f l = some l') :
    Calls Try.prog 78 #[.slice A l.length c, .func (.func 79) #[] #[]] w fun e w' => e = .returned (.tuple #[]) ∧ Kd.R k36 36 w' base (fun _ => True) (.slice A l.length c) l' ∧ l'.length = l.length ∧ w.grownBy w' (Value.slice A l.length c).ownBlock := by
  unfold lanes_Sorted.f at h
  split at h
  case isFalse => exact absurd h (by simp)
  rename_i h12
  have hne : l ≠ [] := by rintro rfl; simp at h12
  replace h12 := h12.2
  obtain ⟨ds, hds, h⟩ := Option.bind_eq_some_iff.1 h
  obtain rfl := Option.some.inj h
  have hm := lnsOf_map hds
  subst hm
  have hlen : (ds.map Ln.x).length = ds.length := List.length_map ..
  obtain ⟨g, cap, e, hb, hg, cells, hc⟩ := Kd.R_form hR (List.length_pos_iff.2 hne)
  injection e with e _ e2
  subst e e2
  obtain ⟨h0, inner, ho, hr⟩ := hR
  have hin := inner_flat hr
  subst hin
  have hH := own_holdsK ho
  have eg : ∀ args w, (callFunc 79 args).run Try.prog w = .ok (.enter 79 args) w := enters_of Try.func79 (by kernel_rfl) rfl
  have hcon := AnyQ.slices_SortFunc_small_sorted layLanes 2 Try.isAgg36 Try.sizeOf36 encLn (fun _ => rfl) (fun x v hv => by simp [encLn] at hv; rcases hv with rfl | rfl <;> rfl) cfLn 79 #[] swo_cfLn g 0 c ds.toArray w eg (fun _ _ _ _ x y => closure79 x y _) hH.1 hH.2 (by simpa [hlen] using h12) len_calls
  have hcon2 := AnyQ.slices_SortFunc_small layLanes 2 Try.isAgg36 Try.sizeOf36 encLn (fun _ => rfl) (fun x v hv => by simp [encLn] at hv; rcases hv with rfl | rfl <;> rfl) cfLn 79 #[] g 0 c ds.toArray w eg (fun _ _ _ _ x y => closure79 x y _) hH.1 hH.2 (by simpa [hlen] using h12) len_calls
  change Calls Try.prog 78 _ _ _ at hcon2
  have hsz : ds.toArray.size = (ds.map Ln.x).length := by simp
  rw [hsz] at hcon2
  have hp := insertionSort_holds (lt := ltOf cfLn) swo_cfLn ds.toArray 0 ds.toArray.size (Nat.zero_le _) (Nat.le_refl _)
  have hsl : (sortLn ds).size = ds.length := by have h_ := hp.1.1; unfold sortLn; exact h_.trans (by simp)
  refine hcon2.mono fun e w' hw => ?_
  obtain ⟨he, q, os, rfl⟩ := hw
  have e3 : Go.Sort.insertionSort (ltOf cfLn) ds.toArray 0 (ds.map Ln.x).length = sortLn ds := by unfold sortLn; rw [hsz]
  rw [e3]
  have hp2 := own_putK ho q (flatK encLn 2 (sortLn ds)) (by rw [size_flatK, hsl, hlen]; rfl) os
  refine ⟨he, ⟨h0, (flatK encLn 2 (sortLn ds)).toList, ?_, ?_⟩, by simp [hsl], hp2.2⟩
  · rw [show ((sortLn ds).toList.map Ln.x).length = (ds.map Ln.x).length by simp [hsl]]
    exact hp2.1
  · show Reps _ 2 _ _
    refine ⟨by simp, fun j p hj => ?_⟩
    rw [List.getElem?_map] at hj
    have hjl : j < (sortLn ds).size := by
      rcases Nat.lt_or_ge j (sortLn ds).size with h | h
      · exact h
      · rw [List.getElem?_eq_none (by simpa using h)] at hj; simp at hj
    rw [enc_flat _ _ hjl]
    have e4 : (sortLn ds)[j]!.x = p := by
      rw [getElem!_pos (sortLn ds) _ hjl]
      simpa [List.getElem?_eq_getElem (show j < (sortLn ds).toList.length by simpa using hjl)] using hj
    rw [← e4]
    exact k36_mkM _ _ _ _
theorem sortLanes_v (v : Value) (l l' : List S36) (base : Nat) (w : World) (hR : Kd.R k36 36 w base (fun _ => True) v l) (h : lanes_Sorted.f l = some l') :
    Calls Try.prog 78 #[v, .func (.func 79) #[] #[]] w fun e w' => e = .returned (.tuple #[]) ∧ Kd.R k36 36 w' base (fun _ => True) v l' ∧ w.grownBy w' v.ownBlock := by
  obtain ⟨A, c, e⟩ := Kd.R_slice hR
  subst e
  refine (sortLanes_calls A c l l' base w hR h).mono fun e w' hh => ?_
  exact ⟨hh.1, hh.2.1, hh.2.2.2⟩
end Go.Proofs.Ytjgbdicbdlollaa.B
namespace Go.Proofs.Ytjgbdicbdlollaa.B
open Go.RowKit Go.Proofs.YtjgbdicbdlollaaW.PrintWords Go.Proofs.YtjgbdicbdlollaaW.PrintLast Go.Proofs.YtjgbdicbdlollaaW.PrintMore
attribute [local go_sem] max2_int min2_int max_two min_two max_three min_three max_four min_four   -- for this text's walks alone
set_option linter.unusedVariables false
set_option linter.unusedSimpArgs false
def ratio_Of.f (k : Nat) (a0 : Int) (a1 : Int) : Option (Int × Int) := (ratio_divisor.f k a0 a1).bind fun t359 => (if a1 < 0 then (if (wrap64 (-t359)) = 0 then (none) else (some (wrap64 (Int.tdiv a0 (wrap64 (-t359))), wrap64 (Int.tdiv a1 (wrap64 (-t359)))))) else (if t359 = 0 then (none) else (some (wrap64 (Int.tdiv a0 t359), wrap64 (Int.tdiv a1 t359)))))
theorem ratio_Of.mono : ∀ a0 a1 k, LeO (ratio_Of.f k a0 a1) (ratio_Of.f (k + 1) a0 a1) := by
  intro a0 a1 k
  unfold ratio_Of.f
  repeat' first
      | (with_reducible exact ratio_divisor.mono _ _ _)
      | (with_reducible exact LeO.refl _)
      | (with_reducible exact LeO.none _)
      | (with_reducible refine LeO.ite ?_ ?_)
      | (with_reducible refine LeO.bind ?_ (fun _ => ?_))
      | exact ratio_divisor.mono _ _ _
      | exact LeO.none _
      | refine LeO.ite ?_ ?_
      | refine LeO.bind ?_ (fun _ => ?_)
def ratio_Of.T4 : Bool × List (List Nat × List Nat) := (true, [([], []), ([], []), ([0, 1], [0, 1]), ([], []), ([], []), ([3, 4], [3, 4]), ([2, 5], [2, 5]), ([6, 0, 1, 2, 3, 4, 5, 6], [6])])
def ratio_Of.B4 : List Nat := [0, 0, 3, 0, 0, 24, 63, 127]
theorem ratio_Of.tab4 : rtab .any (opsOf Try.f81 4) = ratio_Of.T4 := by kernel_rfl
theorem ratio_Of.bits4 : waitsOk ratio_Of.T4.2 ratio_Of.B4 = true := by kernel_rfl
set_option maxHeartbeats 8000000 in
set_option maxRecDepth 100000 in
theorem ratio_Of.calls (k : Nat) (a0 : Int) (a1 : Int) (r1 : Int) (r2 : Int) (w : World) (h : ratio_Of.f k a0 a1 = some (r1, r2)) :
  Calls Try.prog 81 #[.int .i64 a0, .int .i64 a1] w fun e w' => e = .returned (.agg #[.int .i64 r1, .int .i64 r2]) ∧ Below w.heap.size w w' := by
 have hu28 := Try.underlying28
 have HB := Aside0.mk (Below.refl w.heap.size w)
 have H : ((ratio_divisor.f k a0 a1).bind fun t359 => (if a1 < 0 then (if (wrap64 (-t359)) = 0 then (none) else (some (wrap64 (Int.tdiv a0 (wrap64 (-t359))), wrap64 (Int.tdiv a1 (wrap64 (-t359)))))) else (if t359 = 0 then (none) else (some (wrap64 (Int.tdiv a0 t359), wrap64 (Int.tdiv a1 t359)))))) = some (r1, r2) := h
 clear h
 replace H := Option.bind_eq_some_iff.mp H
 obtain ⟨t359, A30, H⟩ := H
 replace H : (if a1 < 0 then (if (wrap64 (-t359)) = 0 then (none) else (some (wrap64 (Int.tdiv a0 (wrap64 (-t359))), wrap64 (Int.tdiv a1 (wrap64 (-t359)))))) else (if t359 = 0 then (none) else (some (wrap64 (Int.tdiv a0 t359), wrap64 (Int.tdiv a1 t359))))) = some (r1, r2) := H
 have A3 := Aside0.mk A30
 clear A30
 by_cases c4 : a1 < 0
 ·rw [if_pos c4] at H
  have c4b0 : decide (a1 < 0) = true := decide_eq_true c4
  clear c4
  by_cases c5 : (wrap64 (-t359)) = 0
  ·rw [if_pos c5] at H
   exact absurd H (by simp)
  ·rw [if_neg c5] at H
   have c5b0 : ((wrap64 (-t359)) == 0) = false := beq_eq_false_iff_ne.mpr c5
   have c5b1 : ((wrap64 (-t359)) != 0) = true := bne_iff_ne.mpr c5
   simp only [Option.some.injEq, Prod.mk.injEq] at H
   obtain ⟨rfl, rfl⟩ := H
   go_enter Try.func81, Try.ntmps81
   try go_wp2_with (first | ((with_reducible refine gate_dst (N := 4) rfl ?_); refine box_event ?hg (N := 4) ?hd (cs := #[.int .i64 0, .int .i64 0]) (t := 28) ?hr ?_; (case hd => rfl); (case hg => rfl); (case hr => first | (go_simp; done) | (go_simp; rfl)); intro gb358 hg w6 hbox hb; have n0_ := Aside0.mk (below_step (by repeat (first | (with_reducible first | exact HB.out | apply below_alloc | apply pw_below_drewN | apply below_drew1) | exact HB.out)) hb); have n1_ := Aside0.mk (hbox); have n2_ := Aside0.mk ((by rw [hg]; exact (below_size (by repeat (first | (with_reducible first | exact HB.out | apply below_alloc | apply pw_below_drewN | apply below_drew1) | exact HB.out))) : w.heap.size ≤ gb358)); have n3_ := Aside0.mk ((by rw [hg]; exact (below_size (by repeat (first | (with_reducible first | exact HB.out | apply below_alloc | apply pw_below_drewN | apply below_drew1) | exact HB.out))) : w.heap.size ≤ gb358)); clear HB; have HB := n0_; have BK358 := n1_; have GW358 := n2_; have GE358 := n3_; clear n0_ n1_ n2_ n3_; clear hb hbox hg) | ((with_reducible refine gate_callee (f := 99) rfl ?_); refine goesL_ (some 8) rfl rfl Try.func99 (by kernel_rfl) rfl #[.int .i64 a0, .int .i64 a1] rfl (by (try simp only [List.map_toArray, List.map_cons, List.map_nil]); first | done | rfl | (simp only [List.length_drop, List.length_take]; rfl)) ?_; (with_reducible refine (ratio_divisor.calls k a0 a1 t359 _ A3.out).mono ?_); rintro e w7 ⟨rfl, hb⟩; refine ⟨_, rfl, ?_⟩; have n0_ := Aside0.mk (blk_below (g := gb358) (o := .cells #[.int .i64 0, .int .i64 0] 28 (0, 0)) (by (with_reducible repeat (first | refine blk_drewN ?_ _ | refine blk_drew ?_ | refine blk_alloc ?_ _)); exact BK358.out) hb); have n1_ := Aside0.mk (below_step (by repeat (first | (with_reducible first | exact HB.out | apply below_alloc | apply pw_below_drewN | apply below_drew1 | refine below_set ?_ GE358.out) | exact HB.out)) hb); clear BK358; clear HB; have BK358 := n0_; have HB := n1_; clear n0_ n1_; (try clear hb); (try clear hb2); (try clear hk); (try clear hi)))
   have n0_ := Aside0.mk (blk_drew BK358.out)
   have n1_ := Aside0.mk (below_drew1 HB.out)
   clear BK358
   clear HB
   have BK358 := n0_
   have HB := n1_
   clear n0_ n1_
   refine start_ (n := 8) (S := fun w' => True) (ds := []) #[false, false, false, false, false, false, false, false] (by kernel_rfl) rfl rfl trivial (fun hHeld => ?_); refine with_tabW ratio_Of.tab4 ratio_Of.bits4 (fun HT_ HW_ => ?_)
   generalize w7.drew = w8 at BK358 HB hHeld ⊢
   refine pure_ (i := 0) (N := some 13) (v := ?_) (a' := ?_) #[true, false, false, false, false, false, false, false] rfl rfl (any_of HT_.out (by kernel_rfl)) (fun _ _ _ h => h) (Or.inl ⟨by rfl, ?_⟩) ?_ ?_
   rotate_left
   ·intro w'
    go_simp
    with_reducible rfl
   rotate_left
   ·simp only [Act.put, List.setIfInBounds_toArray, List.set_cons_zero, List.set_cons_succ, i64_w, i32_w]
    rfl
   refine pure_ (i := 1) (N := some 14) (v := ?_) (a' := ?_) #[true, true, false, false, false, false, false, false] rfl rfl (any_of HT_.out (by kernel_rfl)) (fun _ _ _ h => h) (Or.inl ⟨by rfl, ?_⟩) ?_ ?_
   rotate_left
   ·intro w'
    go_simp
    with_reducible rfl
   rotate_left
   ·simp only [Act.put, List.setIfInBounds_toArray, List.set_cons_zero, List.set_cons_succ, i64_w, i32_w]
    rfl
   refine pure_ (i := 2) (N := some 15) (v := ?_) (a' := ?_) #[true, true, true, false, false, false, false, false] rfl rfl (any_of HT_.out (by kernel_rfl)) (fun _ _ _ h => h) (Or.inl ⟨by rfl, ?_⟩) ?_ ?_
   rotate_left
   ·intro w'
    go_simp
    with_reducible rfl
   rotate_left
   ·simp only [Act.put, List.setIfInBounds_toArray, List.set_cons_zero, List.set_cons_succ, i64_w, i32_w]
    rfl
   refine pure_ (i := 3) (N := some 16) (v := ?_) (a' := ?_) #[true, true, true, true, false, false, false, false] rfl rfl (any_of HT_.out (by kernel_rfl)) (fun _ _ _ h => h) (Or.inl ⟨by rfl, ?_⟩) ?_ ?_
   rotate_left
   ·intro w'
    go_simp
    with_reducible rfl
   rotate_left
   ·simp only [Act.put, List.setIfInBounds_toArray, List.set_cons_zero, List.set_cons_succ, i64_w, i32_w]
    rfl
   refine pure_ (i := 4) (N := some 17) (v := ?_) (a' := ?_) #[true, true, true, true, true, false, false, false] rfl rfl (any_of HT_.out (by kernel_rfl)) (fun _ _ _ h => h) (Or.inl ⟨by rfl, ?_⟩) ?_ ?_
   rotate_left
   ·intro w'
    go_simp
    with_reducible rfl
   rotate_left
   ·simp only [Act.put, List.setIfInBounds_toArray, List.set_cons_zero, List.set_cons_succ, i64_w, i32_w]
    rfl
   refine pure_ (i := 5) (N := some 18) (v := ?_) (a' := ?_) #[true, true, true, true, true, true, false, false] rfl rfl (any_of HT_.out (by kernel_rfl)) (fun _ _ _ h => h) (Or.inl ⟨by rfl, ?_⟩) ?_ ?_
   rotate_left
   ·intro w'
    go_simp
    with_reducible rfl
   rotate_left
   ·simp only [Act.put, List.setIfInBounds_toArray, List.set_cons_zero, List.set_cons_succ, i64_w, i32_w]
    rfl
   refine pure_ (i := 6) (N := some 19) (v := ?_) (a' := ?_) #[true, true, true, true, true, true, true, false] rfl rfl (any_of HT_.out (by kernel_rfl)) (fun _ _ _ h => h) (Or.inl ⟨by rfl, ?_⟩) ?_ ?_
   rotate_left
   ·intro w'
    go_simp
    with_reducible rfl
   rotate_left
   ·simp only [Act.put, List.setIfInBounds_toArray, List.set_cons_zero, List.set_cons_succ, i64_w, i32_w]
    rfl
   refine one_ (i := 7) (N := none) #[true, true, true, true, true, true, true, true] rfl rfl (one_of HT_.out (by kernel_rfl)) (by decide) (fun K hK => ?_)
   have hs9 : w8.cell? ⟨gb358, 0, none⟩ = some (.int .i64 0) := (blk_cell BK358.out 0).trans rfl
   have hfs9 := blk_frozen BK358.out 0
   have hs10 : w8.cell? ⟨gb358, 1, none⟩ = some (.int .i64 0) := (blk_cell BK358.out 1).trans rfl
   have hfs10 := blk_frozen BK358.out 1
   refine skip_ (w1 := ?_) (by rfl) rfl ?_ ?_
   rotate_left
   ·go_simp
    rfl
   refine hK.out _ _ trivial (fun hHeld => ?_)
   clear hK K
   refine done_ (done_of HT_.out (by kernel_rfl)) ?_
   try go_wp2
   refine bodyPost_ret (results_cell_row rfl _ _ gb358 28 #[.int .i64 (wrap64 (Int.tdiv a0 (wrap64 (-t359)))), .int .i64 (wrap64 (Int.tdiv a1 (wrap64 (-t359))))] (0, 0) _ rfl (by (with_reducible repeat (first | refine blk_drewN ?_ _ | refine blk_drew ?_ | refine blk_alloc ?_ _)); refine blk_put (cs := #[.int .i64 (wrap64 (Int.tdiv a0 (wrap64 (-t359)))), .int .i64 0]) ?_ 1 _ rfl; (with_reducible repeat (first | refine blk_drewN ?_ _ | refine blk_drew ?_ | refine blk_alloc ?_ _)); refine blk_put (cs := #[.int .i64 0, .int .i64 0]) ?_ 0 _ rfl; (with_reducible repeat (first | refine blk_drewN ?_ _ | refine blk_drew ?_ | refine blk_alloc ?_ _)); exact BK358.out) Try.underlying28 rfl (by kernel_rfl)) rfl ?_
   exact ⟨by first | rfl | (simp [errW_none, errW_some] <;> rfl) | (simp [*, errW_none, errW_some] <;> rfl), by repeat (first | (with_reducible first | exact HB.out | apply below_alloc | apply pw_below_drewN | apply below_drew1 | refine below_set ?_ GE358.out) | exact HB.out)⟩
 ·rw [if_neg c4] at H
  have c4b0 : decide (a1 < 0) = false := decide_eq_false c4
  clear c4
  by_cases c11 : t359 = 0
  ·rw [if_pos c11] at H
   exact absurd H (by simp)
  ·rw [if_neg c11] at H
   have c11b0 : (t359 == 0) = false := beq_eq_false_iff_ne.mpr c11
   have c11b1 : (t359 != 0) = true := bne_iff_ne.mpr c11
   simp only [Option.some.injEq, Prod.mk.injEq] at H
   obtain ⟨rfl, rfl⟩ := H
   go_enter Try.func81, Try.ntmps81
   try go_wp2_with (first | ((with_reducible refine gate_dst (N := 4) rfl ?_); refine box_event ?hg (N := 4) ?hd (cs := #[.int .i64 0, .int .i64 0]) (t := 28) ?hr ?_; (case hd => rfl); (case hg => rfl); (case hr => first | (go_simp; done) | (go_simp; rfl)); intro gb358 hg w12 hbox hb; have n0_ := Aside0.mk (below_step (by repeat (first | (with_reducible first | exact HB.out | apply below_alloc | apply pw_below_drewN | apply below_drew1) | exact HB.out)) hb); have n1_ := Aside0.mk (hbox); have n2_ := Aside0.mk ((by rw [hg]; exact (below_size (by repeat (first | (with_reducible first | exact HB.out | apply below_alloc | apply pw_below_drewN | apply below_drew1) | exact HB.out))) : w.heap.size ≤ gb358)); have n3_ := Aside0.mk ((by rw [hg]; exact (below_size (by repeat (first | (with_reducible first | exact HB.out | apply below_alloc | apply pw_below_drewN | apply below_drew1) | exact HB.out))) : w.heap.size ≤ gb358)); clear HB; have HB := n0_; have BK358 := n1_; have GW358 := n2_; have GE358 := n3_; clear n0_ n1_ n2_ n3_; clear hb hbox hg) | ((with_reducible refine gate_callee (f := 99) rfl ?_); refine goesL_ (some 8) rfl rfl Try.func99 (by kernel_rfl) rfl #[.int .i64 a0, .int .i64 a1] rfl (by (try simp only [List.map_toArray, List.map_cons, List.map_nil]); first | done | rfl | (simp only [List.length_drop, List.length_take]; rfl)) ?_; (with_reducible refine (ratio_divisor.calls k a0 a1 t359 _ A3.out).mono ?_); rintro e w13 ⟨rfl, hb⟩; refine ⟨_, rfl, ?_⟩; have n0_ := Aside0.mk (blk_below (g := gb358) (o := .cells #[.int .i64 0, .int .i64 0] 28 (0, 0)) (by (with_reducible repeat (first | refine blk_drewN ?_ _ | refine blk_drew ?_ | refine blk_alloc ?_ _)); exact BK358.out) hb); have n1_ := Aside0.mk (below_step (by repeat (first | (with_reducible first | exact HB.out | apply below_alloc | apply pw_below_drewN | apply below_drew1 | refine below_set ?_ GE358.out) | exact HB.out)) hb); clear BK358; clear HB; have BK358 := n0_; have HB := n1_; clear n0_ n1_; (try clear hb); (try clear hb2); (try clear hk); (try clear hi)))
   have n0_ := Aside0.mk (blk_drew BK358.out)
   have n1_ := Aside0.mk (below_drew1 HB.out)
   clear BK358
   clear HB
   have BK358 := n0_
   have HB := n1_
   clear n0_ n1_
   refine start_ (n := 8) (S := fun w' => True) (ds := []) #[false, false, false, false, false, false, false, false] (by kernel_rfl) rfl rfl trivial (fun hHeld => ?_); refine with_tabW ratio_Of.tab4 ratio_Of.bits4 (fun HT_ HW_ => ?_)
   generalize w13.drew = w14 at BK358 HB hHeld ⊢
   refine pure_ (i := 0) (N := some 13) (v := ?_) (a' := ?_) #[true, false, false, false, false, false, false, false] rfl rfl (any_of HT_.out (by kernel_rfl)) (fun _ _ _ h => h) (Or.inl ⟨by rfl, ?_⟩) ?_ ?_
   rotate_left
   ·intro w'
    go_simp
    with_reducible rfl
   rotate_left
   ·simp only [Act.put, List.setIfInBounds_toArray, List.set_cons_zero, List.set_cons_succ, i64_w, i32_w]
    rfl
   refine pure_ (i := 1) (N := some 14) (v := ?_) (a' := ?_) #[true, true, false, false, false, false, false, false] rfl rfl (any_of HT_.out (by kernel_rfl)) (fun _ _ _ h => h) (Or.inl ⟨by rfl, ?_⟩) ?_ ?_
   rotate_left
   ·intro w'
    go_simp
    with_reducible rfl
   rotate_left
   ·simp only [Act.put, List.setIfInBounds_toArray, List.set_cons_zero, List.set_cons_succ, i64_w, i32_w]
    rfl
   refine pure_ (i := 2) (N := some 15) (v := ?_) (a' := ?_) #[true, true, true, false, false, false, false, false] rfl rfl (any_of HT_.out (by kernel_rfl)) (fun _ _ _ h => h) (Or.inl ⟨by rfl, ?_⟩) ?_ ?_
   rotate_left
   ·intro w'
    go_simp
    with_reducible rfl
   rotate_left
   ·simp only [Act.put, List.setIfInBounds_toArray, List.set_cons_zero, List.set_cons_succ, i64_w, i32_w]
    rfl
   refine pure_ (i := 3) (N := some 16) (v := ?_) (a' := ?_) #[true, true, true, true, false, false, false, false] rfl rfl (any_of HT_.out (by kernel_rfl)) (fun _ _ _ h => h) (Or.inl ⟨by rfl, ?_⟩) ?_ ?_
   rotate_left
   ·intro w'
    go_simp
    with_reducible rfl
   rotate_left
   ·simp only [Act.put, List.setIfInBounds_toArray, List.set_cons_zero, List.set_cons_succ, i64_w, i32_w]
    rfl
   refine pure_ (i := 4) (N := some 17) (v := ?_) (a' := ?_) #[true, true, true, true, true, false, false, false] rfl rfl (any_of HT_.out (by kernel_rfl)) (fun _ _ _ h => h) (Or.inl ⟨by rfl, ?_⟩) ?_ ?_
   rotate_left
   ·intro w'
    go_simp
    with_reducible rfl
   rotate_left
   ·simp only [Act.put, List.setIfInBounds_toArray, List.set_cons_zero, List.set_cons_succ, i64_w, i32_w]
    rfl
   refine pure_ (i := 5) (N := some 18) (v := ?_) (a' := ?_) #[true, true, true, true, true, true, false, false] rfl rfl (any_of HT_.out (by kernel_rfl)) (fun _ _ _ h => h) (Or.inl ⟨by rfl, ?_⟩) ?_ ?_
   rotate_left
   ·intro w'
    go_simp
    with_reducible rfl
   rotate_left
   ·simp only [Act.put, List.setIfInBounds_toArray, List.set_cons_zero, List.set_cons_succ, i64_w, i32_w]
    rfl
   refine pure_ (i := 6) (N := some 19) (v := ?_) (a' := ?_) #[true, true, true, true, true, true, true, false] rfl rfl (any_of HT_.out (by kernel_rfl)) (fun _ _ _ h => h) (Or.inl ⟨by rfl, ?_⟩) ?_ ?_
   rotate_left
   ·intro w'
    go_simp
    with_reducible rfl
   rotate_left
   ·simp only [Act.put, List.setIfInBounds_toArray, List.set_cons_zero, List.set_cons_succ, i64_w, i32_w]
    rfl
   refine one_ (i := 7) (N := none) #[true, true, true, true, true, true, true, true] rfl rfl (one_of HT_.out (by kernel_rfl)) (by decide) (fun K hK => ?_)
   have hs15 : w14.cell? ⟨gb358, 0, none⟩ = some (.int .i64 0) := (blk_cell BK358.out 0).trans rfl
   have hfs15 := blk_frozen BK358.out 0
   have hs16 : w14.cell? ⟨gb358, 1, none⟩ = some (.int .i64 0) := (blk_cell BK358.out 1).trans rfl
   have hfs16 := blk_frozen BK358.out 1
   refine skip_ (w1 := ?_) (by rfl) rfl ?_ ?_
   rotate_left
   ·go_simp
    rfl
   refine hK.out _ _ trivial (fun hHeld => ?_)
   clear hK K
   refine done_ (done_of HT_.out (by kernel_rfl)) ?_
   try go_wp2
   refine bodyPost_ret (results_cell_row rfl _ _ gb358 28 #[.int .i64 (wrap64 (Int.tdiv a0 t359)), .int .i64 (wrap64 (Int.tdiv a1 t359))] (0, 0) _ rfl (by (with_reducible repeat (first | refine blk_drewN ?_ _ | refine blk_drew ?_ | refine blk_alloc ?_ _)); refine blk_put (cs := #[.int .i64 (wrap64 (Int.tdiv a0 t359)), .int .i64 0]) ?_ 1 _ rfl; (with_reducible repeat (first | refine blk_drewN ?_ _ | refine blk_drew ?_ | refine blk_alloc ?_ _)); refine blk_put (cs := #[.int .i64 0, .int .i64 0]) ?_ 0 _ rfl; (with_reducible repeat (first | refine blk_drewN ?_ _ | refine blk_drew ?_ | refine blk_alloc ?_ _)); exact BK358.out) Try.underlying28 rfl (by kernel_rfl)) rfl ?_
   exact ⟨by first | rfl | (simp [errW_none, errW_some] <;> rfl) | (simp [*, errW_none, errW_some] <;> rfl), by repeat (first | (with_reducible first | exact HB.out | apply below_alloc | apply pw_below_drewN | apply below_drew1 | refine below_set ?_ GE358.out) | exact HB.out)⟩
end Go.Proofs.Ytjgbdicbdlollaa.B
