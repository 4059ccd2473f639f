/- Texts behind the row of BranchApart, part 2: contracts of the functions it reaches, words that their walks use, and lemmas in plain Lean. -/
import Derived.Below
import Derived.Deep.Draws
import Derived.Deep.AppendLies
import Derived.Maps.AppendAt
import Derived.OwnWalk
import Derived.Laws.BytesArg
import Derived.Laws.MakeOwn
import Derived.Laws.OwnMore
import Derived.Deep.OwnRows
import Derived.Tactics
import Derived.Lib.ConvBytes
import Derived.Laws.Slices
import Derived.WalkKit
import Derived.KernelRfl
import Derived.RowKit3
import Derived.Deep.LoopGhost
import Derived.Deep.QuietTactic
import Derived.BigQuiet
import Derived.WideLaws
import Derived.Deep.DeepCutAuto
import Derived.Deep.CutBlock
import Derived.Deep.RegionHeld3
import Derived.Laws.Rows
import Derived.Lib.AppendStr
import Derived.ArgAppend
import Derived.Laws.IdiomCopy
import Derived.RowKit
import Derived.OrdersHeld
import Derived.Laws.BitsLemmas
import Derived.Test.YtpmadffgdfholaaProg
import Derived.Laws.StructEq
import Derived.MapKept
import Derived.WalkSpells
import Derived.Deep.DrawnRows
import Derived.Maps.RangeWalk
import Derived.Test.YtpmadffgdfholaaN1
namespace Go.Proofs.Ytpmadffgdfholaa.B
open Go.RowKit Go.MapKept Go.Proofs.YtpmadffgdfholaaW.PrintWords Go.Proofs.YtpmadffgdfholaaW.PrintLast Go.Proofs.YtpmadffgdfholaaW.PrintMore
set_option linter.unusedVariables false
set_option linter.unusedSimpArgs false
attribute [local go_sem ↓] Go.wp_at_zero Go.wp_at_succ
/-- A street that read takes. -/
def wayOk (n : Int) (x : S30) : Bool := !(decide (mn x.f0 x.f1 < 0) || decide (n ≤ mx x.f0 x.f1) || (x.f0 == x.f1) || decide (x.f2 < 0) || decide (1000 < x.f2))
/-- What read answers: 0, 2 or 3. -/
def readB (n : Int) (l : List S30) : Int := if n < 2 ∨ 7 < n then 2 else if 30 < l.length then 3 else if l.all (wayOk n) then 0 else 2
/-- The numbers of the first j streets that lead to b. -/
def toB (l : List S30) (j : Nat) (b : Int) : List Int := ((List.range j).filter fun q : Nat => (rd_T30 l (q : Int)).f1 == b).map (fun q : Nat => (q : Int))
theorem toB_succ (l : List S30) (j : Nat) (b : Int) : toB l (j + 1) b = if (rd_T30 l (j : Int)).f1 = b then toB l j b ++ [(j : Int)] else toB l j b := by
  unfold toB
  rw [List.range_succ, List.filter_append, List.map_append]
  by_cases h : (rd_T30 l (j : Int)).f1 = b <;> simp [h]
theorem toB_len (l : List S30) (j : Nat) (b : Int) : (toB l j b).length ≤ j := by
  induction j with
  | zero => simp [toB]
  | succ j ih => rw [toB_succ]; split <;> (try simp) <;> omega
theorem all_upto (p : S30 → Bool) (l : List S30) (h : ∀ j : Nat, j < l.length → p (rd_T30 l (j : Int)) = true) : l.all p = true := by
  rw [List.all_eq_true]
  intro x hx
  obtain ⟨j, hj, rfl⟩ := List.getElem_of_mem hx
  have := h j hj
  simpa [rd_T30, List.getD, List.getElem?_eq_getElem hj] using this
theorem not_all (p : S30 → Bool) (l : List S30) (j : Nat) (hj : j < l.length) (h : p (rd_T30 l (j : Int)) = false) : l.all p = false := by
  rw [List.all_eq_false]
  refine ⟨l[j], List.getElem_mem hj, ?_⟩
  simpa [rd_T30, List.getD, List.getElem?_eq_getElem hj] using h
theorem map_event {P : Program} {ops : Array Oper} {rest : List Oper} {o : Oper} {a : Act} {Q : Exit → Act → World → Prop} {W : World} (hgd : o.guard = none) {N : Tmp} (_hd : o.dst = some N)
    (hrun : (execOp a.eval o).run P W = .ok (.value (.map (some W.heap.size))) (W.alloc (.map #[] 0)))
    (h : ∀ m, m = W.heap.size → ∀ w1, w1.heap[m]? = some (.map #[] 0) → Below W.heap.size W w1 → wpList P ops Q rest (a.put o.dst (.map (some m))) w1) : wpList P ops Q (o :: rest) a W :=
  Kd.event_run hgd hrun (h _ rfl _ (blk_new W _) (below_alloc (Below.refl _ _) _))
theorem GrpM.new {w : World} {base m : Nat} (h : w.heap[m]? = some (.map #[] 0)) : GrpM w base m (fun _ => []) :=
  ⟨#[], 0, h, Good.empty 0, by simp, fun _ h => absurd rfl h, by simp⟩
theorem SetM.new {w : World} {m : Nat} (h : w.heap[m]? = some (.map #[] 0)) : SetM w m (fun _ => false) := ⟨#[], 0, h, Good.empty 0, by simp, by simp⟩
theorem GrpM.self {w : World} {base m : Nat} {g : Int → List Int} (_ : GrpM w base m g) : Below w.heap.size w w := Below.refl _ _
theorem toB_step (l : List S30) (i : Nat) (b : Int) (hx : (rd_T30 l (i : Int)).f1 = b) : toB l (i + 1) = (fun j => if j = b then toB l i b ++ [(i : Int)] else toB l i j) := by
  funext j
  rw [toB_succ, hx]
  by_cases h : b = j
  · subst h; simp
  · rw [if_neg h, if_neg (fun h2 => h h2.symm)]
theorem val_succ (i : Nat) (h : i < 1000000) : Value.int .i64 (wrap64 ((i : Int) + 1)) = Value.int .i64 ((i + 1 : Nat) : Int) := by rw [show wrap64 ((i : Int) + 1) = ((i + 1 : Nat) : Int) from by unfold wrap64; omega]
theorem step_lookup {P : Program} {ops : Array Oper} {o : Oper} {a : Act} {w : World} {K : Act → World → Prop} {Q : Exit → Act → World → Prop} {E : Prop} (hgd : o.guard = none) (m x : Operand) (t : TypeId)
    (ho : o.op = Op.lookup t m x false) {mv kv v : Value} (hm : a.eval m = mv) (hx : a.eval x = kv) (hrun : (Instr.lookup t mv kv false).run P w = .ok v w) (h : K (a.put o.dst v) w) :
    if Region.wanted o (yielded ops a.tmps) = true then Oper.wp P o a w K Q else E := by
  have hw : Region.wanted o (yielded ops a.tmps) = true := by simp [Region.wanted, hgd]
  rw [if_pos hw]
  unfold Oper.wp
  simp [execOp, ho, hm, hx, hrun, Result.andThen]
  exact h
theorem grown_then {w w1 w2 : World} {row : Option Nat} (h : Below w.heap.size w w1) (hg : w1.grownBy w2 row) : w.grownBy w2 row :=
  ⟨hg.os.trans h.os, hg.tape.trans h.tape, hg.output.trans h.output, Nat.le_trans h.size hg.size, fun k hk hne => (hg.block k (Nat.lt_of_lt_of_le hk h.size) hne).trans (h.block k hk)⟩
set_option maxHeartbeats 8000000 in
set_option maxRecDepth 100000 in
theorem read_calls (n : Int) (A : Option Addr) (c : Nat) (l : List S30) (w : World) (hr1 : Kd.C k30 w A l.length l) (hc1 : l.length ≤ c) :
    Calls Try.prog 44 #[.int .i64 n, .slice A l.length c] w fun e w' => (readB n l = 0 ∧ ∃ g m, e = .returned (.tuple #[.pointer (some ⟨g, 0, none⟩), .int .i64 0]) ∧ w.heap.size ≤ g ∧ w.heap.size ≤ m ∧
      w'.heap[g]? = some (.cells #[.int .i64 n, .slice A l.length c, .map (some m)] 70 (0, 0)) ∧ GrpM w' w.heap.size m (toB l l.length) ∧ Below w.heap.size w w') ∨
      (readB n l ≠ 0 ∧ e = .returned (.tuple #[.pointer none, .int .i64 (readB n l)]) ∧ Below w.heap.size w w') := by
  have hu30 := Try.underlying30
  have HR1 := Aside0.mk hr1
  have HC1 := Aside0.mk hc1
  clear hr1 hc1
  have HB := Aside0.mk (Below.refl w.heap.size w)
  go_enter Try.func44, Try.ntmps44
  by_cases c1 : n < 2
  · have c1b : decide (n < 2) = true := decide_eq_true c1
    have hR : readB n l = 2 := by unfold readB; rw [if_pos (.inl c1)]
    have HRX := Aside0.mk hR
    clear hR
    go_wp2
    go_ret2
    exact .inr ⟨by rw [HRX.out]; decide, by rw [HRX.out]; rfl, HB.out⟩
  have c1b : decide (n < 2) = false := decide_eq_false c1
  by_cases c2 : 7 < n
  · have c2b : decide (7 < n) = true := decide_eq_true c2
    have hR : readB n l = 2 := by unfold readB; rw [if_pos (.inr c2)]
    have HRX := Aside0.mk hR
    clear hR
    go_wp2
    go_ret2
    exact .inr ⟨by rw [HRX.out]; decide, by rw [HRX.out]; rfl, HB.out⟩
  have c2b : decide (7 < n) = false := decide_eq_false c2
  by_cases c3 : 30 < (l.length : Int)
  · have c3b : decide (30 < (l.length : Int)) = true := decide_eq_true c3
    have c3b2 : decide (30 < l.length) = true := decide_eq_true (by omega)
    have hR : readB n l = 3 := by unfold readB; rw [if_neg (by omega), if_pos (by omega)]
    have HRX := Aside0.mk hR
    clear hR
    go_wp2
    go_ret2
    exact .inr ⟨by rw [HRX.out]; decide, by rw [HRX.out]; rfl, HB.out⟩
  have c3b : decide (30 < (l.length : Int)) = false := decide_eq_false c3
  have c3b2 : decide (30 < l.length) = false := decide_eq_false (by omega)
  have HL := Aside0.mk (show l.length ≤ 30 by omega)
  have hR : readB n l = if l.all (wayOk n) then 0 else 2 := by unfold readB; rw [if_neg (by omega), if_neg (by omega)]
  have HRB := Aside0.mk hR
  clear hR c1 c2 c3
  have h0 : (0 : Int) ≤ n := by have := of_decide_eq_false c1b; omega
  go_wp2_with (first | ((with_reducible refine gate_dst (N := 22) rfl ?_); refine map_event ?hg (N := 22) ?hd ?hr ?_; (case hd => rfl); (case hg => rfl); (case hr => rfl); intro m hm w1 hmap hb; have n0_ := Aside0.mk (GrpM.new (base := w.heap.size) hmap); have n1_ := Aside0.mk (below_step (by repeat (first | (with_reducible first | exact HB.out | apply below_alloc | apply pw_below_drewN | apply below_drew1) | exact HB.out)) hb); have GM := Aside0.mk ((by rw [hm]; exact (below_size (by repeat (first | (with_reducible first | exact HB.out | apply below_alloc | apply pw_below_drewN | apply below_drew1) | exact HB.out)))) : w.heap.size ≤ m); clear HB; have HG := n0_; have HB := n1_; clear n0_ n1_; clear hm hmap hb) | ((with_reducible refine gate_dst (N := 24) rfl ?_); refine box_event ?hg (N := 24) ?hd (cs := #[.int .i64 n, .slice A l.length c, .map (some m)]) (t := 70) ?hr ?_; (case hd => rfl); (case hg => rfl); (case hr => first | (go_simp; done) | (go_simp; rfl)); intro gt hg w2 hbox hb; have n0_ := Aside0.mk (GrpM.below (w1 := w2) (by repeat (first | exact HG.out | refine GrpM.drew ?_)) hb); have n1_ := Aside0.mk (below_step (by repeat (first | (with_reducible first | exact HB.out | apply below_alloc | apply pw_below_drewN | apply below_drew1) | exact HB.out)) hb); have HT := Aside0.mk hbox; have GT := Aside0.mk ((by rw [hg]; exact (below_size (by repeat (first | (with_reducible first | exact HB.out | apply below_alloc | apply pw_below_drewN | apply below_drew1) | exact HB.out)))) : w.heap.size ≤ gt); clear HG HB; have HG := n0_; have HB := n1_; clear n0_ n1_; clear hg hbox hb))
  go_loopg [27] l.length (fun kq v27 w' => ∃ i : Nat, v27 = .int .i64 (i : Int) ∧ Aside0 (i + kq = l.length) ∧ Aside0 (∀ j : Nat, j < i → wayOk n (rd_T30 l (j : Int)) = true) ∧ Aside0 (w'.heap[gt]? = some (.cells #[.int .i64 n, .slice A l.length c, .map (some m)] 70 (0, 0))) ∧ Aside0 (GrpM w' w.heap.size m (toB l i)) ∧ Aside0 (Below w.heap.size w w'))
  case atStart => exact ⟨0, rfl, ⟨by simp⟩, ⟨fun j h => absurd h (by omega)⟩, HT, ⟨HG.out⟩, HB⟩
  case round =>
    clear HT HG HB
    obtain ⟨i, rfl, HI, HA, HT, HG, HB⟩ := hrel
    cases gk with
    | zero =>
      have hi := HI.out
      have c4b : decide ((i : Int) < (l.length : Int)) = false := decide_eq_false (by omega)
      have c4b2 : decide (i < l.length) = false := decide_eq_false (by omega)
      have hl : i = l.length := by omega
      have HLI := Aside0.mk hl
      clear hl hi
      go_wp2
      go_ret2
      exact .inl ⟨by rw [HRB.out, if_pos (all_upto _ l (HLI.out ▸ HA.out))], gt, m, rfl, GT.out, GM.out, HT.out, HLI.out ▸ HG.out, HB.out⟩
    | succ k1 =>
      have hi0 : (0 : Int) ≤ (i : Int) := Int.natCast_nonneg _
      have hi1 : (i : Int) < (l.length : Int) := by have := HI.out; omega
      have c4b : decide ((i : Int) < (l.length : Int)) = true := decide_eq_true hi1
      have c4b2 : decide (i < l.length) = true := decide_eq_true (by omega)
      have hi2 : i < l.length := by omega
      replace hi2 := eq_true hi2
      have c4c : decide ((0 : Int) ≤ (i : Int)) = true := decide_eq_true hi0
      obtain ⟨ad, e, hx_0, hx_1, hx_2⟩ := at_T30 HR1.out (i : Int) hi0 hi1
      cases e
      obtain ⟨x, hx⟩ : ∃ x, rd_T30 l (i : Int) = x := ⟨_, rfl⟩
      have HX := Aside0.mk hx
      rw [hx] at hx_0 hx_1 hx_2
      clear hx
      simp only [Int.toNat_natCast] at hx_0 hx_1 hx_2
      replace hx_0 := (HB.out.cell (World.block_lt_of_cell? w _ hx_0)).trans hx_0
      replace hx_1 := (HB.out.cell (World.block_lt_of_cell? w _ hx_1)).trans hx_1
      replace hx_2 := (HB.out.cell (World.block_lt_of_cell? w _ hx_2)).trans hx_2
      replace hi0 := eq_true hi0
      replace hi1 := eq_true hi1
      have HB0 := Aside0.mk HG.out.self
      go_upto_region 9 with (fail)
      (try simp only [Act.put, List.setIfInBounds_toArray, List.set_cons_zero, List.set_cons_succ])
      obtain ⟨gb, hgb⟩ : ∃ gb, wr.heap.size = gb := ⟨_, rfl⟩
      rw [hgb]
      obtain ⟨wq, hwq⟩ : ∃ wq, wr.alloc (.cells #[.int .i64 x.f0, .int .i64 x.f1, .int .i64 x.f2] 30) = wq := ⟨_, rfl⟩
      rw [hwq]
      have HB1 := Aside0.mk (hwq ▸ below_alloc HB0.out _ : Below wr.heap.size wr wq)
      have BK := Aside0.mk (hgb ▸ hwq ▸ heap_alloc_new wr _ : wq.heap[gb]? = some (.cells #[.int .i64 x.f0, .int .i64 x.f1, .int .i64 x.f2] 30 (0, 0)))
      have GEB := Aside0.mk (hgb ▸ HB.out.size : w.heap.size ≤ gb)
      have HB2 := Aside0.mk (below_step HB.out HB1.out)
      have HT2 := Aside0.mk (blk_below HT.out HB1.out)
      have HG2 := Aside0.mk (GrpM.below HG.out HB1.out)
      clear hgb hwq HB HT HG HB0 HB1 hx_0 hx_1 hx_2
      have hb_0 : wq.cell? ⟨gb, 0, none⟩ = some (.int .i64 x.f0) := (blk_cell BK.out 0).trans rfl
      have hb_1 : wq.cell? ⟨gb, 1, none⟩ = some (.int .i64 x.f1) := (blk_cell BK.out 1).trans rfl
      have hb_2 : wq.cell? ⟨gb, 2, none⟩ = some (.int .i64 x.f2) := (blk_cell BK.out 2).trans rfl
      go_cut [63] (fun v63 wc => ∃ b, v63 = .bool b ∧ Aside0 (b = !wayOk n x) ∧ Aside0 (wc.heap[gb]? = some (.cells #[.int .i64 x.f0, .int .i64 x.f1, .int .i64 x.f2] 30 (0, 0))) ∧ Aside0 (wc.heap[gt]? = some (.cells #[.int .i64 n, .slice (some ad) l.length c, .map (some m)] 70 (0, 0))) ∧ Aside0 (GrpM wc w.heap.size m (toB l i)) ∧ Aside0 (Below w.heap.size w wc))
      case first =>
        obtain ⟨jm, hjm⟩ : ∃ j_ : Int, mn x.f0 x.f1 = j_ := ⟨_, rfl⟩
        have hjm_ : (if x.f1 < x.f0 then x.f1 else x.f0) = jm := hjm
        obtain ⟨jx, hjx⟩ : ∃ j_ : Int, mx x.f0 x.f1 = j_ := ⟨_, rfl⟩
        have hjx_ : (if x.f0 < x.f1 then x.f1 else x.f0) = jx := hjx
        have HW := Aside0.mk (show (!wayOk n x) = (decide (jm < 0) || decide (n ≤ jx) || (x.f0 == x.f1) || decide (x.f2 < 0) || decide (1000 < x.f2)) by rw [← hjm, ← hjx]; simp [wayOk])
        clear hjm hjx
        by_cases t0 : jm < 0
        · have s0 : decide (jm < 0) = true := decide_eq_true t0
          clear t0
          go_wp2
          go_meet
          case rel => exact ⟨_, rfl, ⟨by rw [HW.out]; simp only [s0, Bool.true_or, Bool.or_true]⟩, BK, HT2, HG2, HB2⟩
        have s0 : decide (jm < 0) = false := decide_eq_false t0
        clear t0
        by_cases t1 : n ≤ jx
        · have s1 : decide (n ≤ jx) = true := decide_eq_true t1
          clear t1
          go_wp2
          go_meet
          case rel => exact ⟨_, rfl, ⟨by rw [HW.out]; simp only [s0, s1, Bool.true_or, Bool.or_true]⟩, BK, HT2, HG2, HB2⟩
        have s1 : decide (n ≤ jx) = false := decide_eq_false t1
        clear t1
        by_cases t2 : x.f0 = x.f1
        · have s2 : (x.f0 == x.f1) = true := beq_iff_eq.mpr t2
          clear t2
          go_wp2
          go_meet
          case rel => exact ⟨_, rfl, ⟨by rw [HW.out]; simp only [s0, s1, s2, Bool.true_or, Bool.or_true]⟩, BK, HT2, HG2, HB2⟩
        have s2 : (x.f0 == x.f1) = false := beq_eq_false_iff_ne.mpr t2
        clear t2
        by_cases t3 : x.f2 < 0
        · have s3 : decide (x.f2 < 0) = true := decide_eq_true t3
          clear t3
          go_wp2
          go_meet
          case rel => exact ⟨_, rfl, ⟨by rw [HW.out]; simp only [s0, s1, s2, s3, Bool.true_or, Bool.or_true]⟩, BK, HT2, HG2, HB2⟩
        have s3 : decide (x.f2 < 0) = false := decide_eq_false t3
        clear t3
        by_cases t4 : 1000 < x.f2
        · have s4 : decide (1000 < x.f2) = true := decide_eq_true t4
          clear t4
          go_wp2
          go_meet
          case rel => exact ⟨_, rfl, ⟨by rw [HW.out]; simp only [s0, s1, s2, s3, s4, Bool.true_or, Bool.or_true]⟩, BK, HT2, HG2, HB2⟩
        have s4 : decide (1000 < x.f2) = false := decide_eq_false t4
        clear t4
        go_wp2
        go_meet
        case rel => exact ⟨_, rfl, ⟨by rw [HW.out]; simp only [s0, s1, s2, s3, s4, Bool.or_false]⟩, BK, HT2, HG2, HB2⟩
      case rest =>
        clear BK HT2 HG2 HB2 hb_0 hb_1 hb_2
        obtain ⟨b, rfl, HW, BK, HT, HG, HB⟩ := hcut
        cases b with
        | true =>
          go_wp2
          go_ret2
          have hz : readB n l = 2 := by rw [HRB.out, not_all _ l i (by have := HI.out; omega) (by rw [HX.out]; have := HW.out; cases hh : wayOk n x <;> simp [hh] at this ⊢)]; rfl
          exact .inr ⟨by rw [hz]; decide, by rw [hz]; rfl, HB.out⟩
        | false =>
          obtain ⟨i0, hi0_, hz0, hz1, hz2⟩ := info_parts info3
          have hm3 : Aside0 (∀ w, (zeroValue 28).run Try.prog w = .ok (.slice none 0 0) w) := ⟨fun w => by first | rfl | (go_simp; done)⟩
          obtain ⟨v, hlook, hRv, hvm, hback⟩ := GrpM.lookup HG.out Try.underlying68 Try.underlying3 x.f1 hm3.out
          have hown := Kd.own_of_R hRv
          have HBK := Aside0.mk hback
          have HLK := Aside0.mk hlook
          have hlk : (Instr.lookup 68 (.map (some m)) (.int .i64 x.f1) false).run Try.prog wc.drew = .ok v wc.drew := HLK.out wc.drew rfl
          have hlk2 : (Instr.lookup 68 (.map (some m)) (.int .i64 x.f1) false).run Try.prog (wc.alloc (.cells #[.int .i64 (i : Int)] 3)).drew = .ok v (wc.alloc (.cells #[.int .i64 (i : Int)] 3)).drew := HLK.out _ (Below.heap_alloc wc _ m HG.out.lt)
          clear hback hlook
          have hbx : wc.cell? ⟨gb, 1, none⟩ = some (.int .i64 x.f1) := (blk_cell BK.out 1).trans rfl
          have htx : wc.cell? ⟨gt, 2, none⟩ = some (.map (some m)) := (blk_cell HT.out 2).trans rfl
          have hvb : v.ownBlock ≠ some gb := fun h => (blk_ne ((own_typed hown gb h).choose_spec) BK.out (by decide)) rfl
          have hvt : v.ownBlock ≠ some gt := fun h => (blk_ne ((own_typed hown gt h).choose_spec) HT.out (by decide)) rfl
          have lb := blk_lt BK.out
          have lt := blk_lt HT.out
          have lm := HG.out.lt
          have hll : (toB l i x.f1).length ≤ 30 := Nat.le_trans (toB_len l i x.f1) (by have := HI.out; have := HL.out; omega)
          have hbase : w.heap.size ≤ wc.heap.size := HB.out.size
          have hmt : gt ≠ m := fun h => HG.out.ne_cells HT.out h.symm
          have hmb : gb ≠ m := fun h => HG.out.ne_cells BK.out h.symm
          go_wp2_with fail
          go_region_held3 (fun w' => w'.cell? ⟨gt, 2, none⟩ = some (.map (some m)) ∧ w'.cell? ⟨gb, 1, none⟩ = some (.int .i64 x.f1))
        (first
          | (go_split_ands
             refine ⟨by go_keep, by go_keep⟩)
          | (go_split_ands
             refine ⟨?_, ?_⟩
             · (rw [HGR2.out.cell_far _ (Nat.lt_of_lt_of_le lt HGR0.out.size) (by simpa using hmt)]; assumption)
             · (rw [HGR2.out.cell_far _ (Nat.lt_of_lt_of_le lb HGR0.out.size) (by simpa using hmb)]; assumption))
          | (go_split_ands
             refine ⟨?_, ?_⟩
             · (rw [hgrow.cell_far _ (by simp; omega) (Ne.symm hvt)]; assumption)
             · (rw [hgrow.cell_far _ (by simp; omega) (Ne.symm hvb)]; assumption)))
        (first | (refine step_lookup (by rfl) _ _ 68 (by rfl) (by rfl) (by rfl) (HLK.out _ (by first | rfl | exact Below.heap_alloc wc _ m lm)) ?_) | ((refine step_append_lies _ (by rfl) _ _ _ (by rfl) w.heap.size 3 i0 _ 1 8 Try.underlying28 hi0_ hz0 hz1 hz2 rfl (by omega) v (toB l i x.f1).length _ (by rfl) ((hown.alloc _).drew) ⟨wc.heap.size, 0, none⟩ 1 1 [.int .i64 (i : Int)] (by rfl) (by rfl) (World.news_of_block (cs := #[.int .i64 (i : Int)]) (t := 3) (fr := (0, 0)) (heap_alloc_new wc _)) (by simp [Value.oneCell']) (by omega) (by simp only [maxLen]; omega) (by omega) (by simp; omega) (wc.heap.size + 1) (by simp) ?_; intro gg cap w1 hown1 hgrow hat hlt; (have hgr0 : wc.grownBy w1 v.ownBlock := grown_then (below_drew1 (below_alloc (Below.refl _ _) _)) hgrow); (have hRn : Kd.R (Kd.int .i64) 3 w1 w.heap.size (fun _ => True) (.slice (some ⟨gg, 0, none⟩) ((toB l i x.f1).length + 1) cap) (toB l i x.f1 ++ [(i : Int)]) := Kd.R_of_own (by simpa [encs] using hown1) (fun _ _ => trivial)); (have hloc : (Value.slice (some ⟨gg, 0, none⟩) ((toB l i x.f1).length + 1) cap).ownBlock = v.ownBlock ∨ ∃ b, (Value.slice (some ⟨gg, 0, none⟩) ((toB l i x.f1).length + 1) cap).ownBlock = some b ∧ wc.heap.size ≤ b := by (rcases hat with h | h; exact .inl (by rw [h]; rfl); exact .inr ⟨gg, rfl, by omega⟩)); (obtain ⟨w2, hrun2, hG2, hgr2⟩ := HBK.out w1 _ _ hgr0 hRn hloc); have HG2 := Aside0.mk hG2; have HGR2 := Aside0.mk hgr2; have HGR0 := Aside0.mk hgr0; clear hRn hG2 hgr2 hgr0 hloc)))
          all_goals (go_wp2; go_roundg k1; (case measure => omega); (case rel => exact ⟨i + 1, val_succ i (by have := HI.out; have := HL.out; omega), ⟨by have := HI.out; omega⟩, ⟨fun j hj => by (rcases Nat.lt_or_ge j i with h | h; exact HA.out j h; (obtain rfl : j = i := by omega); rw [HX.out]; have := HW.out; cases hh : wayOk n x <;> simp [hh] at this ⊢)⟩, ⟨(HGR2.out.block gt (Nat.lt_of_lt_of_le lt HGR0.out.size) (by simpa using hmt)).trans ((HGR0.out.block gt lt (Ne.symm hvt)).trans HT.out)⟩, ⟨by have hh := HG2.out; have e := toB_step l i x.f1 (by rw [HX.out]); rw [e]; exact hh⟩, ⟨(HB.out.grown HGR0.out hbase (fun j hj => own_base hown j hj)).grown HGR2.out (Nat.le_trans hbase HGR0.out.size) (fun j hj => by cases hj; exact GM.out)⟩⟩))
def branch_read.f (a0 : Int) (l1 : List (S30)) : Option Int := some (readB a0 l1)
theorem branch_read.calls_ok (a0 : Int) (A1 : Option Addr) (c1 : Nat) (l1 : List (S30)) (r : Int) (w : World) (hr1 : Kd.C k30 w A1 l1.length l1) (hc1 : l1.length ≤ c1) (h : branch_read.f a0 l1 = some r) (hz : (r == 0) = true) :
    Calls Try.prog 44 #[.int .i64 a0, .slice A1 l1.length c1] w fun e w' => ∃ g m, e = .returned (.tuple #[.pointer (some ⟨g, 0, none⟩), .int .i64 r]) ∧ w.heap.size ≤ g ∧ w'.heap[g]? = some (.cells #[.int .i64 a0, .slice A1 l1.length c1, .map m] 70 (0, 0)) ∧ Below w.heap.size w w' := by
  obtain rfl := Option.some.inj h
  have hz' : readB a0 l1 = 0 := beq_iff_eq.mp hz
  refine (read_calls a0 A1 c1 l1 w hr1 hc1).mono ?_
  rintro e w' (⟨_, g, m, rfl, hg, _, hb, _, hB⟩ | ⟨hn, _⟩)
  · exact ⟨g, some m, by rw [hz'], hg, hb, hB⟩
  · exact absurd hz' hn
theorem branch_read.calls_map (a0 : Int) (A1 : Option Addr) (c1 : Nat) (l1 : List (S30)) (r : Int) (w : World) (hr1 : Kd.C k30 w A1 l1.length l1) (hc1 : l1.length ≤ c1) (h : branch_read.f a0 l1 = some r) (hz : (r == 0) = true) :
    Calls Try.prog 44 #[.int .i64 a0, .slice A1 l1.length c1] w fun e w' => ∃ g m, e = .returned (.tuple #[.pointer (some ⟨g, 0, none⟩), .int .i64 r]) ∧ w.heap.size ≤ g ∧ w'.heap[g]? = some (.cells #[.int .i64 a0, .slice A1 l1.length c1, .map (some m)] 70 (0, 0)) ∧ GrpM w' w.heap.size m (toB l1 l1.length) ∧ Below w.heap.size w w' := by
  obtain rfl := Option.some.inj h
  have hz' : readB a0 l1 = 0 := beq_iff_eq.mp hz
  refine (read_calls a0 A1 c1 l1 w hr1 hc1).mono ?_
  rintro e w' (⟨_, g, m, rfl, hg, _, hb, hG, hB⟩ | ⟨hn, _⟩)
  · exact ⟨g, m, by rw [hz'], hg, hb, hG, hB⟩
  · exact absurd hz' hn
theorem branch_read.calls_err (a0 : Int) (A1 : Option Addr) (c1 : Nat) (l1 : List (S30)) (r : Int) (w : World) (hr1 : Kd.C k30 w A1 l1.length l1) (hc1 : l1.length ≤ c1) (h : branch_read.f a0 l1 = some r) (hz : (r == 0) = false) :
    Calls Try.prog 44 #[.int .i64 a0, .slice A1 l1.length c1] w fun e w' => e = .returned (.tuple #[.pointer none, .int .i64 r]) ∧ Below w.heap.size w w' := by
  obtain rfl := Option.some.inj h
  have hz' : readB a0 l1 ≠ 0 := fun h => by rw [h] at hz; exact absurd hz (by decide)
  refine (read_calls a0 A1 c1 l1 w hr1 hc1).mono ?_
  rintro e w' (⟨h0, _⟩ | ⟨_, he, hB⟩)
  · exact absurd h0 hz'
  · exact ⟨he, hB⟩
end Go.Proofs.Ytpmadffgdfholaa.B
namespace Go.Proofs.Ytpmadffgdfholaa.B
open Go.RowKit Go.Proofs.YtpmadffgdfholaaW.PrintWords Go.Proofs.YtpmadffgdfholaaW.PrintLast Go.Proofs.YtpmadffgdfholaaW.PrintMore
attribute [local go_sem] max2_int min2_int max_two min_two max_three min_three max_four min_four   -- for this text's walks alone
set_option linter.unusedVariables false
set_option linter.unusedSimpArgs false
def trishawlaw03_same.l0 : Nat → List Int → List Int → Int → Option (Bool)
  | 0, _, _, _ => none
  | k + 1, x0, x1, x5 => if x5 < (x0.length : Int) then (if 0 ≤ x5 then (if x5 < (x1.length : Int) then (if (rd x0 x5) = (rd x1 x5) then (trishawlaw03_same.l0 k x0 x1 (wrap64 (x5 + 1))) else (some false)) else (none)) else (none)) else (some true)
def trishawlaw03_same.f (k : Nat) (l0 : List Int) (l1 : List Int) : Option (Bool) := if (l0.length : Int) = (l1.length : Int) then (trishawlaw03_same.l0 k l0 l1 0) else (some false)
theorem trishawlaw03_same.mono_l : ∀ k, (∀ y0 y1 y2, LeO (trishawlaw03_same.l0 k y0 y1 y2) (trishawlaw03_same.l0 (k + 1) y0 y1 y2))
  | 0 => fun _ _ _ r h => by simp [trishawlaw03_same.l0] at h
  | k + 1 => by
    have ih0 := trishawlaw03_same.mono_l k
    · intro y0 y1 y2
      unfold trishawlaw03_same.l0
      repeat' first
      | (with_reducible exact ih0 _ _ _)
      | (with_reducible exact LeO.refl _)
      | (with_reducible exact LeO.none _)
      | (with_reducible refine LeO.ite ?_ ?_)
      | (with_reducible refine LeO.bind ?_ (fun _ => ?_))
      | exact ih0 _ _ _
      | exact LeO.none _
      | refine LeO.ite ?_ ?_
      | refine LeO.bind ?_ (fun _ => ?_)
theorem trishawlaw03_same.mono : ∀ a0 a1 k, LeO (trishawlaw03_same.f k a0 a1) (trishawlaw03_same.f (k + 1) a0 a1) := by
  intro a0 a1 k
  have ih0 := trishawlaw03_same.mono_l k
  unfold trishawlaw03_same.f
  repeat' first
      | (with_reducible exact ih0 _ _ _)
      | (with_reducible exact LeO.refl _)
      | (with_reducible exact LeO.none _)
      | (with_reducible refine LeO.ite ?_ ?_)
      | (with_reducible refine LeO.bind ?_ (fun _ => ?_))
      | exact ih0 _ _ _
      | exact LeO.none _
      | refine LeO.ite ?_ ?_
      | refine LeO.bind ?_ (fun _ => ?_)
set_option maxHeartbeats 8000000 in
set_option maxRecDepth 100000 in
theorem trishawlaw03_same.calls (k : Nat) (A0 : Option Addr) (c0 : Nat) (l0 : List Int) (A1 : Option Addr) (c1 : Nat) (l1 : List Int) (r : Bool) (w : World) (hr0 : Kd.C (Kd.int .i64) w A0 l0.length l0) (hc0 : l0.length ≤ c0) (hr1 : Kd.C (Kd.int .i64) w A1 l1.length l1) (hc1 : l1.length ≤ c1) (h : trishawlaw03_same.f k l0 l1 = some r) :
  Calls Try.prog 25 #[.slice A0 l0.length c0, .slice A1 l1.length c1] w fun e w' => e = .returned (.bool r) ∧ Drawn0 w w' := by
 have HR0 := Aside0.mk hr0
 have HC0 := Aside0.mk hc0
 clear hr0 hc0
 have HR1 := Aside0.mk hr1
 have HC1 := Aside0.mk hc1
 clear hr1 hc1
 have H : (if (l0.length : Int) = (l1.length : Int) then (trishawlaw03_same.l0 k l0 l1 0) else (some false)) = some r := h
 clear h
 by_cases c3 : (l0.length : Int) = (l1.length : Int)
 ·rw [if_pos c3] at H
  have c3b0 : ((l0.length : Int) == (l1.length : Int)) = true := beq_iff_eq.mpr c3
  have c3b1 : ((l0.length : Int) != (l1.length : Int)) = false := bne_eq_false_iff_eq.mpr c3
  have c3b2 : (l0.length == l1.length) = true := by first | simpa using c3 | (simp at c3 ⊢; omega)
  clear c3
  have H' := Aside0.mk H
  clear H
  go_enter Try.func25, Try.ntmps25
  go_wp2
  repeat (go_quiet (fail); try go_wp2)
  go_loopg [5] k (fun kq v5 w' => ∃ (x5_1 : Int), v5 = .int .i64 x5_1 ∧ Aside0 (trishawlaw03_same.l0 kq l0 l1 x5_1 = some r) ∧ Aside0 (kq ≤ k) ∧ Drawn0 w w')
  case atStart => exact ⟨(0), (by first | rfl | (simp; done) | (simp [*]; done)), H', ⟨Nat.le_refl _⟩, by repeat (first | exact Drawn0.refl _ | apply Drawn0.step)⟩
  case round =>
   clear H'
   try clear c1
   try clear c2
   try clear p2
   try clear c3
   try clear c3b0
   try clear c3b1
   try clear c3b2
   obtain ⟨x5_1, rfl, HA, HK1, ⟨m1, rfl⟩⟩ := hrel
   cases gk with
   | zero => exact absurd HA.out (by simp [trishawlaw03_same.l0])
   | succ k1 =>
    have H := HA.out
    clear HA
    simp only [trishawlaw03_same.l0] at H
    by_cases c4 : x5_1 < (l0.length : Int)
    ·rw [if_pos c4] at H
     have c4b0 : decide (x5_1 < (l0.length : Int)) = true := decide_eq_true c4
     clear c4
     by_cases c5 : 0 ≤ x5_1
     ·rw [if_pos c5] at H
      have c5b0 : decide (0 ≤ x5_1) = true := decide_eq_true c5
      clear c5
      by_cases c6 : x5_1 < (l1.length : Int)
      ·rw [if_pos c6] at H
       have c6b0 : decide (x5_1 < (l1.length : Int)) = true := decide_eq_true c6
       clear c6
       by_cases c7 : (rd l0 x5_1) = (rd l1 x5_1)
       ·rw [if_pos c7] at H
        have c7b0 : ((rd l0 x5_1) == (rd l1 x5_1)) = true := beq_iff_eq.mpr c7
        have c7b1 : ((rd l0 x5_1) != (rd l1 x5_1)) = false := bne_eq_false_iff_eq.mpr c7
        clear c7
        have H' := Aside0.mk H
        clear H
        have p119 : 0 ≤ (x5_1 : Int) := of_decide_eq_true (by first | (with_reducible assumption) | assumption)
        have q119 : x5_1 < (l0.length : Int) := of_decide_eq_true (by first | (with_reducible assumption) | assumption)
        obtain ⟨ad119, e119, hx119_0⟩ := Kd.at_int HR0.out x5_1 p119 q119
        cases e119
        replace p119 := eq_true p119
        replace q119 := eq_true q119
        have p120 : 0 ≤ (x5_1 : Int) := of_decide_eq_true (by first | (with_reducible assumption) | assumption)
        have q120 : x5_1 < (l1.length : Int) := of_decide_eq_true (by first | (with_reducible assumption) | assumption)
        obtain ⟨ad120, e120, hx120_0⟩ := Kd.at_int HR1.out x5_1 p120 q120
        cases e120
        replace p120 := eq_true p120
        replace q120 := eq_true q120
        go_wp2
        repeat (go_quiet (fail); try go_wp2)
        go_roundg k1
        case measure => have := HK1.out; omega
        case rel => exact ⟨(wrap64 (x5_1 + 1)), (by first | rfl | (simp; done) | (simp [*]; done)), H', ⟨by have := HK1.out; omega⟩, by repeat (first | exact Drawn0.refl _ | apply Drawn0.step)⟩
       ·rw [if_neg c7] at H
        have c7b0 : ((rd l0 x5_1) == (rd l1 x5_1)) = false := beq_eq_false_iff_ne.mpr c7
        have c7b1 : ((rd l0 x5_1) != (rd l1 x5_1)) = true := bne_iff_ne.mpr c7
        obtain rfl := Option.some.inj H
        have p119 : 0 ≤ (x5_1 : Int) := of_decide_eq_true (by first | (with_reducible assumption) | assumption)
        have q119 : x5_1 < (l0.length : Int) := of_decide_eq_true (by first | (with_reducible assumption) | assumption)
        obtain ⟨ad119, e119, hx119_0⟩ := Kd.at_int HR0.out x5_1 p119 q119
        cases e119
        replace p119 := eq_true p119
        replace q119 := eq_true q119
        have p120 : 0 ≤ (x5_1 : Int) := of_decide_eq_true (by first | (with_reducible assumption) | assumption)
        have q120 : x5_1 < (l1.length : Int) := of_decide_eq_true (by first | (with_reducible assumption) | assumption)
        obtain ⟨ad120, e120, hx120_0⟩ := Kd.at_int HR1.out x5_1 p120 q120
        cases e120
        replace p120 := eq_true p120
        replace q120 := eq_true q120
        go_wp2
        repeat (go_quiet (fail); try go_wp2)
        go_ret
        exact ⟨by first | rfl | (simp; done) | (simp [*]; done), by repeat (first | exact Drawn0.refl _ | apply Drawn0.step)⟩
      ·rw [if_neg c6] at H
       exact absurd H (by simp)
     ·rw [if_neg c5] at H
      exact absurd H (by simp)
    ·rw [if_neg c4] at H
     have c4b0 : decide (x5_1 < (l0.length : Int)) = false := decide_eq_false c4
     clear c4
     obtain rfl := Option.some.inj H
     go_wp2
     repeat (go_quiet (fail); try go_wp2)
     go_ret
     exact ⟨by first | rfl | (simp; done) | (simp [*]; done), by repeat (first | exact Drawn0.refl _ | apply Drawn0.step)⟩
 ·rw [if_neg c3] at H
  have c3b0 : ((l0.length : Int) == (l1.length : Int)) = false := beq_eq_false_iff_ne.mpr c3
  have c3b1 : ((l0.length : Int) != (l1.length : Int)) = true := bne_iff_ne.mpr c3
  have c3b2 : (l0.length == l1.length) = false := by first | simpa using c3 | (simp at c3 ⊢; omega)
  obtain rfl := Option.some.inj H
  go_enter Try.func25, Try.ntmps25
  go_wp2
  repeat (go_quiet (fail); try go_wp2)
  go_ret
  exact ⟨by first | rfl | (simp; done) | (simp [*]; done), by repeat (first | exact Drawn0.refl _ | apply Drawn0.step)⟩
end Go.Proofs.Ytpmadffgdfholaa.B
namespace Go.Proofs.Ytpmadffgdfholaa.B
open Go.RowKit Go.Proofs.YtpmadffgdfholaaW.PrintWords Go.Proofs.YtpmadffgdfholaaW.PrintLast Go.Proofs.YtpmadffgdfholaaW.PrintMore
attribute [local go_sem] max2_int min2_int max_two min_two max_three min_three max_four min_four   -- for this text's walks alone
set_option linter.unusedVariables false
set_option linter.unusedSimpArgs false
mutual
def trishawref03_IsBranching.l0 : Nat → Int → List (S30) → List Int → Int → Int → Option (Bool)
  | 0, _, _, _, _, _ => none
  | k + 1, x0, x1, x2, x7, x8 => if x8 < (x2.length : Int) then (if 0 ≤ x8 then (if (rd x2 x8) < 0 then (trishawref03_IsBranching.j1 k x0 x1 x2 x7 x8 true) else (if (rd x2 x8) ≥ (x1.length : Int) then (trishawref03_IsBranching.j1 k x0 x1 x2 x7 x8 true) else (if x8 > 0 then (if 0 ≤ (wrap64 (x8 - 1)) then (if (wrap64 (x8 - 1)) < (x2.length : Int) then (if (rd x2 x8) ≤ (rd x2 (wrap64 (x8 - 1))) then (trishawref03_IsBranching.j1 k x0 x1 x2 x7 x8 true) else (if 0 ≤ (rd x2 x8) then (if (rd x2 x8) < (x1.length : Int) then (if 0 ≤ ((rd_T30 x1 (rd x2 x8)).f1) then (trishawref03_IsBranching.j1 k x0 x1 x2 x7 x8 ((Int.tmod (shr .i64 x7 ((rd_T30 x1 (rd x2 x8)).f1)) 2) == 1)) else (none)) else (none)) else (none))) else (none)) else (none)) else (if 0 ≤ (rd x2 x8) then (if (rd x2 x8) < (x1.length : Int) then (if 0 ≤ ((rd_T30 x1 (rd x2 x8)).f1) then (trishawref03_IsBranching.j1 k x0 x1 x2 x7 x8 ((Int.tmod (shr .i64 x7 ((rd_T30 x1 (rd x2 x8)).f1)) 2) == 1)) else (none)) else (none)) else (none))))) else (none)) else ((trishawref03_reached.f k x1 x2).bind fun t148 => (if 0 ≤ x0 then (some (t148 == (wrap64 ((shl .i64 1 x0) - 1)))) else (none)))
def trishawref03_IsBranching.j1 : Nat → Int → List (S30) → List Int → Int → Int → Bool → Option (Bool)
  | 0, _, _, _, _, _, _ => none
  | k + 1, x0, x1, x2, x7, x8, x63 => if x63 = true then (some false) else (if 0 ≤ x8 then (if x8 < (x2.length : Int) then (if 0 ≤ (rd x2 x8) then (if (rd x2 x8) < (x1.length : Int) then (if 0 ≤ ((rd_T30 x1 (rd x2 x8)).f1) then (trishawref03_IsBranching.l0 k x0 x1 x2 (wrap64 (x7 + (shl .i64 1 ((rd_T30 x1 (rd x2 x8)).f1)))) (wrap64 (x8 + 1))) else (none)) else (none)) else (none)) else (none)) else (none))
end
def trishawref03_IsBranching.f (k : Nat) (a0 : Int) (l1 : List (S30)) (l2 : List Int) : Option (Bool) := if (l2.length : Int) = (wrap64 (a0 - 1)) then (trishawref03_IsBranching.l0 k a0 l1 l2 1 0) else (some false)
end Go.Proofs.Ytpmadffgdfholaa.B
namespace Go.Proofs.Ytpmadffgdfholaa.B
open Go.RowKit Go.Proofs.YtpmadffgdfholaaW.PrintWords Go.Proofs.YtpmadffgdfholaaW.PrintLast Go.Proofs.YtpmadffgdfholaaW.PrintMore
attribute [local go_sem] max2_int min2_int max_two min_two max_three min_three max_four min_four   -- for this text's walks alone
set_option linter.unusedVariables false
set_option linter.unusedSimpArgs false
def trishawref03_cost.l0 : Nat → List (S30) → List Int → Int → Int → Option (Int)
  | 0, _, _, _, _ => none
  | k + 1, x0, x1, x5, x6 => if x6 < (x1.length : Int) then (if 0 ≤ x6 then (if 0 ≤ (rd x1 x6) then (if (rd x1 x6) < (x0.length : Int) then (trishawref03_cost.l0 k x0 x1 (wrap64 (x5 + ((rd_T30 x0 (rd x1 x6)).f2))) (wrap64 (x6 + 1))) else (none)) else (none)) else (none)) else (some x5)
def trishawref03_cost.f (k : Nat) (l0 : List (S30)) (l1 : List Int) : Option (Int) := trishawref03_cost.l0 k l0 l1 0 0
theorem trishawref03_cost.mono_l : ∀ k, (∀ y0 y1 y2 y3, LeO (trishawref03_cost.l0 k y0 y1 y2 y3) (trishawref03_cost.l0 (k + 1) y0 y1 y2 y3))
  | 0 => fun _ _ _ _ r h => by simp [trishawref03_cost.l0] at h
  | k + 1 => by
    have ih0 := trishawref03_cost.mono_l k
    · intro y0 y1 y2 y3
      unfold trishawref03_cost.l0
      repeat' first
      | (with_reducible exact ih0 _ _ _ _)
      | (with_reducible exact LeO.refl _)
      | (with_reducible exact LeO.none _)
      | (with_reducible refine LeO.ite ?_ ?_)
      | (with_reducible refine LeO.bind ?_ (fun _ => ?_))
      | exact ih0 _ _ _ _
      | exact LeO.none _
      | refine LeO.ite ?_ ?_
      | refine LeO.bind ?_ (fun _ => ?_)
theorem trishawref03_cost.mono : ∀ a0 a1 k, LeO (trishawref03_cost.f k a0 a1) (trishawref03_cost.f (k + 1) a0 a1) := by
  intro a0 a1 k
  have ih0 := trishawref03_cost.mono_l k
  unfold trishawref03_cost.f
  repeat' first
      | (with_reducible exact ih0 _ _ _ _)
      | (with_reducible exact LeO.refl _)
      | (with_reducible exact LeO.none _)
      | (with_reducible refine LeO.ite ?_ ?_)
      | (with_reducible refine LeO.bind ?_ (fun _ => ?_))
      | exact ih0 _ _ _ _
      | exact LeO.none _
      | refine LeO.ite ?_ ?_
      | refine LeO.bind ?_ (fun _ => ?_)
set_option maxHeartbeats 8000000 in
set_option maxRecDepth 100000 in
theorem trishawref03_cost.calls (k : Nat) (A0 : Option Addr) (c0 : Nat) (l0 : List (S30)) (A1 : Option Addr) (c1 : Nat) (l1 : List Int) (r : Int) (w : World) (hr0 : Kd.C k30 w A0 l0.length l0) (hc0 : l0.length ≤ c0) (hr1 : Kd.C (Kd.int .i64) w A1 l1.length l1) (hc1 : l1.length ≤ c1) (h : trishawref03_cost.f k l0 l1 = some r) :
  Calls Try.prog 63 #[.slice A0 l0.length c0, .slice A1 l1.length c1] w fun e w' => e = .returned (.int .i64 r) ∧ Drawn0 w w' := by
 have HR0 := Aside0.mk hr0
 have HC0 := Aside0.mk hc0
 clear hr0 hc0
 have HR1 := Aside0.mk hr1
 have HC1 := Aside0.mk hc1
 clear hr1 hc1
 have H : (trishawref03_cost.l0 k l0 l1 0 0) = some r := h
 clear h
 have H' := Aside0.mk H
 clear H
 go_enter Try.func63, Try.ntmps63
 go_wp2
 go_loopg [5, 6] k (fun kq v5 v6 w' => ∃ (x5_1 : Int) (x6_1 : Int), v5 = .int .i64 x5_1 ∧ v6 = .int .i64 x6_1 ∧ Aside0 (trishawref03_cost.l0 kq l0 l1 x5_1 x6_1 = some r) ∧ Aside0 (kq ≤ k) ∧ Drawn0 w w')
 case atStart => exact ⟨(0), (0), (by first | rfl | (simp; done) | (simp [*]; done)), (by first | rfl | (simp; done) | (simp [*]; done)), H', ⟨Nat.le_refl _⟩, by repeat (first | exact Drawn0.refl _ | apply Drawn0.step)⟩
 case round =>
  clear H'
  try clear c1
  try clear p2
  obtain ⟨x5_1, x6_1, rfl, rfl, HA, HK1, ⟨m1, rfl⟩⟩ := hrel
  cases gk with
  | zero => exact absurd HA.out (by simp [trishawref03_cost.l0])
  | succ k1 =>
   have H := HA.out
   clear HA
   simp only [trishawref03_cost.l0] at H
   by_cases c3 : x6_1 < (l1.length : Int)
   ·rw [if_pos c3] at H
    have c3b0 : decide (x6_1 < (l1.length : Int)) = true := decide_eq_true c3
    clear c3
    by_cases c4 : 0 ≤ x6_1
    ·rw [if_pos c4] at H
     have c4b0 : decide (0 ≤ x6_1) = true := decide_eq_true c4
     clear c4
     by_cases c5 : 0 ≤ (rd l1 x6_1)
     ·rw [if_pos c5] at H
      have c5b0 : decide (0 ≤ (rd l1 x6_1)) = true := decide_eq_true c5
      clear c5
      by_cases c6 : (rd l1 x6_1) < (l0.length : Int)
      ·rw [if_pos c6] at H
       have c6b0 : decide ((rd l1 x6_1) < (l0.length : Int)) = true := decide_eq_true c6
       clear c6
       have H' := Aside0.mk H
       clear H
       have p159 : 0 ≤ (x6_1 : Int) := of_decide_eq_true (by first | (with_reducible assumption) | assumption)
       have q159 : x6_1 < (l1.length : Int) := of_decide_eq_true (by first | (with_reducible assumption) | assumption)
       obtain ⟨ad159, e159, hx159_0⟩ := Kd.at_int HR1.out x6_1 p159 q159
       cases e159
       replace p159 := eq_true p159
       replace q159 := eq_true q159
       have p160 : 0 ≤ ((rd l1 x6_1) : Int) := of_decide_eq_true (by first | (with_reducible assumption) | assumption)
       have q160 : (rd l1 x6_1) < (l0.length : Int) := of_decide_eq_true (by first | (with_reducible assumption) | assumption)
       obtain ⟨ad160, e160, hx160_0, hx160_1, hx160_2⟩ := at_T30 HR0.out (rd l1 x6_1) p160 q160
       cases e160
       replace p160 := eq_true p160
       replace q160 := eq_true q160
       go_wp2
       go_roundg k1
       case measure => have := HK1.out; omega
       case rel => exact ⟨(wrap64 (x5_1 + ((rd_T30 l0 (rd l1 x6_1)).f2))), (wrap64 (x6_1 + 1)), (by first | rfl | (simp; done) | (simp [*]; done)), (by first | rfl | (simp; done) | (simp [*]; done)), H', ⟨by have := HK1.out; omega⟩, by repeat (first | exact Drawn0.refl _ | apply Drawn0.step)⟩
      ·rw [if_neg c6] at H
       exact absurd H (by simp)
     ·rw [if_neg c5] at H
      exact absurd H (by simp)
    ·rw [if_neg c4] at H
     exact absurd H (by simp)
   ·rw [if_neg c3] at H
    have c3b0 : decide (x6_1 < (l1.length : Int)) = false := decide_eq_false c3
    clear c3
    obtain rfl := Option.some.inj H
    go_wp2
    go_ret
    exact ⟨by first | rfl | (simp; done) | (simp [*]; done), by repeat (first | exact Drawn0.refl _ | apply Drawn0.step)⟩
def trishawref03_Is.f (k : Nat) (a0 : Int) (l1 : List (S30)) (l2 : List Int) : Option (Int × Bool × Int) := (trishawref03_Town.f k a0 l1).bind fun t161 => (if t161 = 0 then ((trishawref03_IsBranching.f k a0 l1 l2).bind fun t162 => (if t162 = true then ((trishawref03_cost.f k l1 l2).bind fun t163 => (some (t163, true, 0))) else (some (0, false, 0)))) else (some (0, false, t161)))
end Go.Proofs.Ytpmadffgdfholaa.B
namespace Go.Proofs.Ytpmadffgdfholaa.B
open Go.RowKit Go.Proofs.YtpmadffgdfholaaW.PrintWords Go.Proofs.YtpmadffgdfholaaW.PrintLast Go.Proofs.YtpmadffgdfholaaW.PrintMore
attribute [local go_sem] max2_int min2_int max_two min_two max_three min_three max_four min_four   -- for this text's walks alone
set_option linter.unusedVariables false
set_option linter.unusedSimpArgs false
mutual
def trishawref03_Less.l0 : Nat → List Int → List Int → Int → Option (Bool)
  | 0, _, _, _ => none
  | k + 1, x0, x1, x5 => if x5 < (x0.length : Int) then (trishawref03_Less.j1 k x0 x1 x5 (decide (x5 < (x1.length : Int)))) else (trishawref03_Less.j1 k x0 x1 x5 false)
def trishawref03_Less.j1 : Nat → List Int → List Int → Int → Bool → Option (Bool)
  | 0, _, _, _, _ => none
  | k + 1, x0, x1, x5, x15 => if x15 = true then (if 0 ≤ x5 then (if x5 < (x0.length : Int) then (if x5 < (x1.length : Int) then (if (rd x0 x5) = (rd x1 x5) then (trishawref03_Less.l0 k x0 x1 (wrap64 (x5 + 1))) else (some (decide ((rd x0 x5) < (rd x1 x5))))) else (none)) else (none)) else (none)) else (some (decide ((x0.length : Int) < (x1.length : Int))))
end
def trishawref03_Less.f (k : Nat) (l0 : List Int) (l1 : List Int) : Option (Bool) := trishawref03_Less.l0 k l0 l1 0
theorem trishawref03_Less.mono_l : ∀ k, (∀ y0 y1 y2, LeO (trishawref03_Less.l0 k y0 y1 y2) (trishawref03_Less.l0 (k + 1) y0 y1 y2)) ∧ (∀ y0 y1 y2 y3, LeO (trishawref03_Less.j1 k y0 y1 y2 y3) (trishawref03_Less.j1 (k + 1) y0 y1 y2 y3))
  | 0 => ⟨fun _ _ _ r h => by simp [trishawref03_Less.l0] at h, fun _ _ _ _ r h => by simp [trishawref03_Less.j1] at h⟩
  | k + 1 => by
    obtain ⟨ih0, ih1⟩ := trishawref03_Less.mono_l k
    refine ⟨?_, ?_⟩
    · intro y0 y1 y2
      unfold trishawref03_Less.l0
      repeat' first
      | (with_reducible exact ih0 _ _ _)
      | (with_reducible exact ih1 _ _ _ _)
      | (with_reducible exact LeO.refl _)
      | (with_reducible exact LeO.none _)
      | (with_reducible refine LeO.ite ?_ ?_)
      | (with_reducible refine LeO.bind ?_ (fun _ => ?_))
      | exact ih0 _ _ _
      | exact ih1 _ _ _ _
      | exact LeO.none _
      | refine LeO.ite ?_ ?_
      | refine LeO.bind ?_ (fun _ => ?_)
    · intro y0 y1 y2 y3
      unfold trishawref03_Less.j1
      repeat' first
      | (with_reducible exact ih0 _ _ _)
      | (with_reducible exact ih1 _ _ _ _)
      | (with_reducible exact LeO.refl _)
      | (with_reducible exact LeO.none _)
      | (with_reducible refine LeO.ite ?_ ?_)
      | (with_reducible refine LeO.bind ?_ (fun _ => ?_))
      | exact ih0 _ _ _
      | exact ih1 _ _ _ _
      | exact LeO.none _
      | refine LeO.ite ?_ ?_
      | refine LeO.bind ?_ (fun _ => ?_)
theorem trishawref03_Less.mono : ∀ a0 a1 k, LeO (trishawref03_Less.f k a0 a1) (trishawref03_Less.f (k + 1) a0 a1) := by
  intro a0 a1 k
  obtain ⟨ih0, ih1⟩ := trishawref03_Less.mono_l k
  unfold trishawref03_Less.f
  repeat' first
      | (with_reducible exact ih0 _ _ _)
      | (with_reducible exact ih1 _ _ _ _)
      | (with_reducible exact LeO.refl _)
      | (with_reducible exact LeO.none _)
      | (with_reducible refine LeO.ite ?_ ?_)
      | (with_reducible refine LeO.bind ?_ (fun _ => ?_))
      | exact ih0 _ _ _
      | exact ih1 _ _ _ _
      | exact LeO.none _
      | refine LeO.ite ?_ ?_
      | refine LeO.bind ?_ (fun _ => ?_)
set_option maxHeartbeats 8000000 in
set_option maxRecDepth 100000 in
theorem trishawref03_Less.calls (k : Nat) (A0 : Option Addr) (c0 : Nat) (l0 : List Int) (A1 : Option Addr) (c1 : Nat) (l1 : List Int) (r : Bool) (w : World) (hr0 : Kd.C (Kd.int .i64) w A0 l0.length l0) (hc0 : l0.length ≤ c0) (hr1 : Kd.C (Kd.int .i64) w A1 l1.length l1) (hc1 : l1.length ≤ c1) (h : trishawref03_Less.f k l0 l1 = some r) :
  Calls Try.prog 38 #[.slice A0 l0.length c0, .slice A1 l1.length c1] w fun e w' => e = .returned (.bool r) ∧ Drawn0 w w' := by
 have HR0 := Aside0.mk hr0
 have HC0 := Aside0.mk hc0
 clear hr0 hc0
 have HR1 := Aside0.mk hr1
 have HC1 := Aside0.mk hc1
 clear hr1 hc1
 have H : (trishawref03_Less.l0 k l0 l1 0) = some r := h
 clear h
 have H' := Aside0.mk H
 clear H
 go_enter Try.func38, Try.ntmps38
 go_wp2
 repeat (go_quiet (fail); try go_wp2)
 go_loopg [5] k (fun kq v5 w' => ∃ (x5_1 : Int), v5 = .int .i64 x5_1 ∧ Aside0 (trishawref03_Less.l0 kq l0 l1 x5_1 = some r) ∧ Aside0 (kq ≤ k) ∧ Drawn0 w w')
 case atStart => exact ⟨(0), (by first | rfl | (simp; done) | (simp [*]; done)), H', ⟨Nat.le_refl _⟩, by repeat (first | exact Drawn0.refl _ | apply Drawn0.step)⟩
 case round =>
  clear H'
  try clear c1
  try clear p2
  obtain ⟨x5_1, rfl, HA, HK1, ⟨m1, rfl⟩⟩ := hrel
  cases gk with
  | zero => exact absurd HA.out (by simp [trishawref03_Less.l0])
  | succ k1 =>
   have H := HA.out
   clear HA
   simp only [trishawref03_Less.l0] at H
   have HC3 := Aside0.mk H
   clear H
   go_upto_region 2 with (fail)
   repeat (go_quiet (fail); go_upto_region 2 with (fail))
   go_cut [15] (fun v15 wc => ∃ (kq : Nat) (x15_2 : Bool), v15 = .bool x15_2 ∧ Aside0 (trishawref03_Less.j1 kq l0 l1 x5_1 x15_2 = some r) ∧ Aside0 (kq ≤ k1) ∧ Drawn0 w wc)
   case first =>
    have H := HC3.out
    clear HC3
    by_cases c4 : x5_1 < (l0.length : Int)
    ·rw [if_pos c4] at H
     have c4b0 : decide (x5_1 < (l0.length : Int)) = true := decide_eq_true c4
     clear c4
     (first | rw [c4b0] | (simp only [i64_w, i32_w]; rw [c4b0]) | skip)
     have H' := Aside0.mk H
     clear H
     go_wp2
     repeat (go_quiet (fail); try go_wp2)
     go_meet
     case rel => exact ⟨_, (decide (x5_1 < (l1.length : Int))), (by first | rfl | (simp; done) | (simp [*]; done)), H', ⟨by have := HK1.out; first | omega | exact Nat.le_refl _⟩, by repeat (first | exact Drawn0.refl _ | apply Drawn0.step)⟩
    ·rw [if_neg c4] at H
     have c4b0 : decide (x5_1 < (l0.length : Int)) = false := decide_eq_false c4
     clear c4
     (first | rw [c4b0] | (simp only [i64_w, i32_w]; rw [c4b0]) | skip)
     have H' := Aside0.mk H
     clear H
     go_wp2
     repeat (go_quiet (fail); try go_wp2)
     go_meet
     case rel => exact ⟨_, (false), (by first | rfl | (simp; done) | (simp [*]; done)), H', ⟨by have := HK1.out; first | omega | exact Nat.le_refl _⟩, by repeat (first | exact Drawn0.refl _ | apply Drawn0.step)⟩
   case rest =>
    clear HC3
    try clear c1
    try clear p2
    try clear c3
    try clear c4
    try clear c4b0
    try clear p2
    obtain ⟨kq, x15_2, rfl, HA, HJ2, ⟨mc2, rfl⟩⟩ := hcut
    cases kq with
    | zero => exact absurd HA.out (by simp [trishawref03_Less.j1])
    | succ kj2 =>
     have H := HA.out
     clear HA
     simp only [trishawref03_Less.j1] at H
     by_cases c5 : x15_2 = true
     ·subst c5
      have H1 : (if 0 ≤ x5_1 then (if x5_1 < (l0.length : Int) then (if x5_1 < (l1.length : Int) then (if (rd l0 x5_1) = (rd l1 x5_1) then (trishawref03_Less.l0 kj2 l0 l1 (wrap64 (x5_1 + 1))) else (some (decide ((rd l0 x5_1) < (rd l1 x5_1))))) else (none)) else (none)) else (none)) = some r := by rw [if_pos rfl] at H; exact H
      clear H
      have H := H1
      clear H1
      by_cases c6 : 0 ≤ x5_1
      ·rw [if_pos c6] at H
       have c6b0 : decide (0 ≤ x5_1) = true := decide_eq_true c6
       clear c6
       by_cases c7 : x5_1 < (l0.length : Int)
       ·rw [if_pos c7] at H
        have c7b0 : decide (x5_1 < (l0.length : Int)) = true := decide_eq_true c7
        clear c7
        by_cases c8 : x5_1 < (l1.length : Int)
        ·rw [if_pos c8] at H
         have c8b0 : decide (x5_1 < (l1.length : Int)) = true := decide_eq_true c8
         clear c8
         by_cases c9 : (rd l0 x5_1) = (rd l1 x5_1)
         ·rw [if_pos c9] at H
          have c9b0 : ((rd l0 x5_1) == (rd l1 x5_1)) = true := beq_iff_eq.mpr c9
          have c9b1 : ((rd l0 x5_1) != (rd l1 x5_1)) = false := bne_eq_false_iff_eq.mpr c9
          clear c9
          have H' := Aside0.mk H
          clear H
          have p183 : 0 ≤ (x5_1 : Int) := of_decide_eq_true (by first | (with_reducible assumption) | assumption)
          have q183 : x5_1 < (l0.length : Int) := of_decide_eq_true (by first | (with_reducible assumption) | assumption)
          obtain ⟨ad183, e183, hx183_0⟩ := Kd.at_int HR0.out x5_1 p183 q183
          cases e183
          replace p183 := eq_true p183
          replace q183 := eq_true q183
          have p184 : 0 ≤ (x5_1 : Int) := of_decide_eq_true (by first | (with_reducible assumption) | assumption)
          have q184 : x5_1 < (l1.length : Int) := of_decide_eq_true (by first | (with_reducible assumption) | assumption)
          obtain ⟨ad184, e184, hx184_0⟩ := Kd.at_int HR1.out x5_1 p184 q184
          cases e184
          replace p184 := eq_true p184
          replace q184 := eq_true q184
          go_wp2
          repeat (go_quiet (fail); try go_wp2)
          go_roundg kj2
          case measure => have := HK1.out; have := HJ2.out; omega
          case rel => exact ⟨(wrap64 (x5_1 + 1)), (by first | rfl | (simp; done) | (simp [*]; done)), H', ⟨by have := HK1.out; have := HJ2.out; omega⟩, by repeat (first | exact Drawn0.refl _ | apply Drawn0.step)⟩
         ·rw [if_neg c9] at H
          have c9b0 : ((rd l0 x5_1) == (rd l1 x5_1)) = false := beq_eq_false_iff_ne.mpr c9
          have c9b1 : ((rd l0 x5_1) != (rd l1 x5_1)) = true := bne_iff_ne.mpr c9
          obtain rfl := Option.some.inj H
          have p183 : 0 ≤ (x5_1 : Int) := of_decide_eq_true (by first | (with_reducible assumption) | assumption)
          have q183 : x5_1 < (l0.length : Int) := of_decide_eq_true (by first | (with_reducible assumption) | assumption)
          obtain ⟨ad183, e183, hx183_0⟩ := Kd.at_int HR0.out x5_1 p183 q183
          cases e183
          replace p183 := eq_true p183
          replace q183 := eq_true q183
          have p184 : 0 ≤ (x5_1 : Int) := of_decide_eq_true (by first | (with_reducible assumption) | assumption)
          have q184 : x5_1 < (l1.length : Int) := of_decide_eq_true (by first | (with_reducible assumption) | assumption)
          obtain ⟨ad184, e184, hx184_0⟩ := Kd.at_int HR1.out x5_1 p184 q184
          cases e184
          replace p184 := eq_true p184
          replace q184 := eq_true q184
          have p185 : 0 ≤ (x5_1 : Int) := of_decide_eq_true (by first | (with_reducible assumption) | assumption)
          have q185 : x5_1 < (l0.length : Int) := of_decide_eq_true (by first | (with_reducible assumption) | assumption)
          obtain ⟨ad185, e185, hx185_0⟩ := Kd.at_int HR0.out x5_1 p185 q185
          obtain rfl : ad183 = ad185 := (by injection e185)
          replace p185 := eq_true p185
          replace q185 := eq_true q185
          have p186 : 0 ≤ (x5_1 : Int) := of_decide_eq_true (by first | (with_reducible assumption) | assumption)
          have q186 : x5_1 < (l1.length : Int) := of_decide_eq_true (by first | (with_reducible assumption) | assumption)
          obtain ⟨ad186, e186, hx186_0⟩ := Kd.at_int HR1.out x5_1 p186 q186
          obtain rfl : ad184 = ad186 := (by injection e186)
          replace p186 := eq_true p186
          replace q186 := eq_true q186
          go_wp2
          repeat (go_quiet (fail); try go_wp2)
          go_ret
          exact ⟨by first | rfl | (simp; done) | (simp [*]; done), by repeat (first | exact Drawn0.refl _ | apply Drawn0.step)⟩
        ·rw [if_neg c8] at H
         exact absurd H (by simp)
       ·rw [if_neg c7] at H
        exact absurd H (by simp)
      ·rw [if_neg c6] at H
       exact absurd H (by simp)
     ·replace c5 := Bool.eq_false_iff.mpr c5
      subst c5
      have H1 : (some (decide ((l0.length : Int) < (l1.length : Int)))) = some r := by rw [if_neg (show ¬ (false = true) by decide)] at H; exact H
      clear H
      have H := H1
      clear H1
      obtain rfl := Option.some.inj H
      go_wp2
      repeat (go_quiet (fail); try go_wp2)
      go_ret
      exact ⟨by first | rfl | (simp; done) | (simp [*]; done), by repeat (first | exact Drawn0.refl _ | apply Drawn0.step)⟩
end Go.Proofs.Ytpmadffgdfholaa.B
namespace Go.Proofs.Ytpmadffgdfholaa.B
open Go.RowKit Go.Proofs.YtpmadffgdfholaaW.PrintWords Go.Proofs.YtpmadffgdfholaaW.PrintLast Go.Proofs.YtpmadffgdfholaaW.PrintMore
attribute [local go_sem] max2_int min2_int max_two min_two max_three min_three max_four min_four   -- for this text's walks alone
set_option linter.unusedVariables false
set_option linter.unusedSimpArgs false
def trishawlaw03_three.f  : Option ((List (S30))) := some (([(⟨0, 1, 5⟩ : S30), (⟨0, 2, 1⟩ : S30), (⟨2, 1, 2⟩ : S30)] : List (S30)))
set_option maxHeartbeats 8000000 in
set_option maxRecDepth 100000 in
theorem trishawlaw03_three.calls  (r : List (S30)) (w : World) (h : trishawlaw03_three.f  = some r) :
  Calls Try.prog 43 #[] w fun e w' => ∃ v0_ : Value, e = .returned (v0_) ∧ Kd.R k30 30 w' w.heap.size (fun _ => True) v0_ r ∧ Below w.heap.size w w' := by
 have hu30 := Try.underlying30
 have HB := Aside0.mk (Below.refl w.heap.size w)
 have H : (some (([(⟨0, 1, 5⟩ : S30), (⟨0, 2, 1⟩ : S30), (⟨2, 1, 2⟩ : S30)] : List (S30)))) = some r := h
 clear h
 obtain ⟨y206, hy206⟩ : ∃ y_ : List (S30), y_ = (([(⟨0, 1, 5⟩ : S30), (⟨0, 2, 1⟩ : S30), (⟨2, 1, 2⟩ : S30)] : List (S30))) := ⟨_, rfl⟩
 replace H : (some y206) = some r := by first | (rw [hy206]; with_reducible exact H) | (have H2_ := (Option.bind_some _ _).symm.trans H; rw [hy206]; with_reducible exact H2_) | (have H2_ := (Option.bind_some _ _).symm.trans H; with_reducible exact H2_) | with_reducible exact H | (rw [hy206]; exact H) | exact H
 have Ny206 := Aside0.mk hy206
 clear hy206
 obtain rfl := Option.some.inj H
 go_enter Try.func43, Try.ntmps43
 go_wp2_with (first | ((with_reducible refine gate_dst (N := 4) rfl ?_); refine Kd.R_lit k30 _ 30 ?hg (N := 4) ?hd (xs := ([(⟨0, 1, 5⟩ : S30), (⟨0, 2, 1⟩ : S30), (⟨2, 1, 2⟩ : S30)] : List (S30))) (inner := [.int .i64 0, .int .i64 1, .int .i64 5, .int .i64 0, .int .i64 2, .int .i64 1, .int .i64 2, .int .i64 1, .int .i64 2]) (ok := fun _ => True) (okp := fun _ => True) ?hr ?hp (fun _ hk => hk) trivial (Below.refl _ _) (Nat.le_refl _) (by simp) ?_; (case hd => rfl); (case hg => rfl); (case hr => first | (go_simp; done) | (go_simp; rfl)); (case hp => exact (Reps.c3 (show Kd.M k30 _ _ _ (⟨0, 1, 5⟩ : S30) [.int .i64 0, .int .i64 1, .int .i64 5] from (k30_mkM _ _ _ (⟨0, 1, 5⟩ : S30) )) (Reps.c3 (show Kd.M k30 _ _ _ (⟨0, 2, 1⟩ : S30) [.int .i64 0, .int .i64 2, .int .i64 1] from (k30_mkM _ _ _ (⟨0, 2, 1⟩ : S30) )) (Reps.c3 (show Kd.M k30 _ _ _ (⟨2, 1, 2⟩ : S30) [.int .i64 2, .int .i64 1, .int .i64 2] from (k30_mkM _ _ _ (⟨2, 1, 2⟩ : S30) )) (Reps.none _ _))))); intro v207 w1 ho2 hb hg_ hnew_; clear hg_ hnew_; (first | rw [← Ny206.out] at ho2 | (simp only [Int.reduceToNat] at ho2; rw [← Ny206.out] at ho2)); have n0_ := Aside0.mk (Kd.R_lower ho2 (below_size (by repeat (first | (with_reducible first | exact HB.out | apply below_alloc | apply pw_below_drewN | apply below_drew1) | exact HB.out)))); have n1_ := Aside0.mk (below_step (by repeat (first | (with_reducible first | exact HB.out | apply below_alloc | apply pw_below_drewN | apply below_drew1) | exact HB.out)) hb); clear HB; have HO208 := n0_; have HB := n1_; clear n0_ n1_; clear hb ho2))
 go_ret
 exact ⟨_, by first | rfl | (simp [errW_none, errW_some] <;> rfl) | (simp [*, errW_none, errW_some] <;> rfl), by (with_reducible repeat (first | apply Kd.R_alloc | apply Kd.R_drewN | apply Kd.R_drew)); exact HO208.out, by repeat (first | (with_reducible first | exact HB.out | apply below_alloc | apply pw_below_drewN | apply below_drew1) | exact HB.out)⟩
def branch_town_costs.l0 : Nat → List Int → List (S30) → Int → Int → Option (List Int)
  | 0, _, _, _, _ => none
  | k + 1, x3, x9, x10, x11 => if x11 < x10 then (if 0 ≤ x11 then (if x11 < (x9.length : Int) then (if x3.length < 17592186044416 then (branch_town_costs.l0 k (x3 ++ [(rd_T30 x9 x11).f2]) x9 x10 (wrap64 (x11 + 1))) else (none)) else (none)) else (none)) else (some x3)
def branch_town_costs.f (k : Nat) (a0_0 : Int) (l0_1 : List (S30)) : Option (List Int) := branch_town_costs.l0 k ([] : List Int) l0_1 (l0_1.length : Int) 0
theorem branch_town_costs.mono_l : ∀ k, (∀ y0 y1 y2 y3, LeO (branch_town_costs.l0 k y0 y1 y2 y3) (branch_town_costs.l0 (k + 1) y0 y1 y2 y3))
  | 0 => fun _ _ _ _ r h => by simp [branch_town_costs.l0] at h
  | k + 1 => by
    have ih0 := branch_town_costs.mono_l k
    · intro y0 y1 y2 y3
      unfold branch_town_costs.l0
      repeat' first
      | (with_reducible exact ih0 _ _ _ _)
      | (with_reducible exact LeO.refl _)
      | (with_reducible exact LeO.none _)
      | (with_reducible refine LeO.ite ?_ ?_)
      | (with_reducible refine LeO.bind ?_ (fun _ => ?_))
      | exact ih0 _ _ _ _
      | exact LeO.none _
      | refine LeO.ite ?_ ?_
      | refine LeO.bind ?_ (fun _ => ?_)
theorem branch_town_costs.mono : ∀ a0 a1 k, LeO (branch_town_costs.f k a0 a1) (branch_town_costs.f (k + 1) a0 a1) := by
  intro a0 a1 k
  have ih0 := branch_town_costs.mono_l k
  unfold branch_town_costs.f
  repeat' first
      | (with_reducible exact ih0 _ _ _ _)
      | (with_reducible exact LeO.refl _)
      | (with_reducible exact LeO.none _)
      | (with_reducible refine LeO.ite ?_ ?_)
      | (with_reducible refine LeO.bind ?_ (fun _ => ?_))
      | exact ih0 _ _ _ _
      | exact LeO.none _
      | refine LeO.ite ?_ ?_
      | refine LeO.bind ?_ (fun _ => ?_)
set_option maxHeartbeats 8000000 in
set_option maxRecDepth 100000 in
theorem branch_town_costs.calls (k : Nat) (g0 : Nat) (a0_0 : Int) (A0_1 : Option Addr) (c0_1 : Nat) (l0_1 : List (S30)) (a0_2 : Option Nat) (r : List Int) (w : World) (hP0 : w.heap[g0]? = some (.cells #[.int .i64 a0_0, .slice A0_1 l0_1.length c0_1, .map a0_2] 70 (0, 0))) (hr0_1 : Kd.C k30 w A0_1 l0_1.length l0_1) (hc0_1 : l0_1.length ≤ c0_1) (h : branch_town_costs.f k a0_0 l0_1 = some r) :
  Calls Try.prog 47 #[.pointer (some ⟨g0, 0, none⟩)] w fun e w' => ∃ v0_ : Value, e = .returned (v0_) ∧ Kd.R (Kd.int .i64) 3 w' w.heap.size (fun _ => True) v0_ r ∧ Below w.heap.size w w' := by
 have hu30 := Try.underlying30
 have HP0 := Aside0.mk hP0
 clear hP0
 have HR0_1 := Aside0.mk hr0_1
 have HC0_1 := Aside0.mk hc0_1
 clear hr0_1 hc0_1
 have HB := Aside0.mk (Below.refl w.heap.size w)
 have H : (branch_town_costs.l0 k ([] : List Int) l0_1 (l0_1.length : Int) 0) = some r := h
 clear h
 have H' := Aside0.mk H
 clear H
 have hx209_0 := blk_cell HP0.out 0
 replace hx209_0 := hx209_0.trans rfl
 have hx209_1 := blk_cell HP0.out 1
 replace hx209_1 := hx209_1.trans rfl
 have hx209_2 := blk_cell HP0.out 2
 replace hx209_2 := hx209_2.trans rfl
 go_enter Try.func47, Try.ntmps47
 go_wp2
 go_loopg [3, 11] k (fun kq v3 v11 w' => ∃ (x3_1 : List Int) (x11_1 : Int), v11 = .int .i64 x11_1 ∧ Aside0 (branch_town_costs.l0 kq x3_1 l0_1 (l0_1.length : Int) x11_1 = some r) ∧ Aside0 (kq ≤ k) ∧ Aside0 (Kd.R (Kd.int .i64) 3 w' w.heap.size (fun _ => True) v3 x3_1) ∧ Aside0 (Below w.heap.size w w'))
 case atStart => exact ⟨(([] : List Int)), (0), (by first | rfl | (simp; done) | (simp [*]; done)), H', ⟨Nat.le_refl _⟩, ⟨by first | exact Kd.R_nil _ _ _ _ _ | exact Kd.N_nil _ _ _ _ _ | exact Kd.V_nil _ _ _ _ _ | exact Kd.Q_nil _ _ _ _ _ | exact Kd.S_nil _ _ _ _ _⟩, ⟨by repeat (first | (with_reducible first | exact HB.out | apply below_alloc | apply pw_below_drewN | apply below_drew1) | exact HB.out)⟩⟩
 case round =>
  clear H'
  try clear hx209_0
  try clear hx209_1
  try clear hx209_2
  obtain ⟨x3_1, x11_1, rfl, HA, HK1, HO_3, HB⟩ := hrel
  cases gk with
  | zero => exact absurd HA.out (by simp [branch_town_costs.l0])
  | succ k1 =>
   have H := HA.out
   clear HA
   simp only [branch_town_costs.l0] at H
   by_cases c2 : x11_1 < (l0_1.length : Int)
   ·rw [if_pos c2] at H
    have c2b0 : decide (x11_1 < (l0_1.length : Int)) = true := decide_eq_true c2
    clear c2
    by_cases c3 : 0 ≤ x11_1
    ·rw [if_pos c3] at H
     have c3b0 : decide (0 ≤ x11_1) = true := decide_eq_true c3
     clear c3
     by_cases c4 : x11_1 < (l0_1.length : Int)
     ·rw [if_pos c4] at H
      have c4b0 : decide (x11_1 < (l0_1.length : Int)) = true := decide_eq_true c4
      clear c4
      by_cases c5 : x3_1.length < 17592186044416
      ·rw [if_pos c5] at H
       have LMc5 := Aside0.mk c5
       clear c5
       obtain ⟨y212, hy212⟩ : ∃ y_ : List Int, y_ = (x3_1 ++ [(rd_T30 l0_1 x11_1).f2]) := ⟨_, rfl⟩
       replace H : (branch_town_costs.l0 k1 y212 l0_1 (l0_1.length : Int) (wrap64 (x11_1 + 1))) = some r := by first | (rw [hy212]; with_reducible exact H) | (have H2_ := (Option.bind_some _ _).symm.trans H; rw [hy212]; with_reducible exact H2_) | (have H2_ := (Option.bind_some _ _).symm.trans H; with_reducible exact H2_) | with_reducible exact H | (rw [hy212]; exact H) | exact H
       have Ny212 := Aside0.mk hy212
       clear hy212
       have H' := Aside0.mk H
       clear H
       have p210 : 0 ≤ (x11_1 : Int) := of_decide_eq_true (by first | (with_reducible assumption) | assumption)
       have q210 : x11_1 < (l0_1.length : Int) := of_decide_eq_true (by first | (with_reducible assumption) | assumption)
       obtain ⟨ad210, e210, hx210_0, hx210_1, hx210_2⟩ := at_T30 HR0_1.out x11_1 p210 q210
       cases e210
       replace hx210_0 := (HB.out.cell (World.block_lt_of_cell? w _ hx210_0)).trans hx210_0
       replace hx210_1 := (HB.out.cell (World.block_lt_of_cell? w _ hx210_1)).trans hx210_1
       replace hx210_2 := (HB.out.cell (World.block_lt_of_cell? w _ hx210_2)).trans hx210_2
       replace p210 := eq_true p210
       replace q210 := eq_true q210
       go_wp2_with (first | ((with_reducible refine gate_dst (N := 5) rfl ?_); refine box_event ?hg (N := 5) ?hd (cs := #[.int .i64 0, .int .i64 0, .int .i64 0]) (t := 30) ?hr ?_; (case hd => rfl); (case hg => rfl); (case hr => first | (go_simp; done) | (go_simp; rfl)); intro gb211 hg w6 hbox hb; have n0_ := Aside0.mk (Kd.R_below (by (with_reducible repeat (first | apply Kd.R_alloc | apply Kd.R_drewN | apply Kd.R_drew)); exact HO_3.out) hb); have n1_ := Aside0.mk (below_step (by repeat (first | (with_reducible first | exact HB.out | apply below_alloc | apply pw_below_drewN | apply below_drew1) | exact HB.out)) hb); have n2_ := Aside0.mk (hbox); have n3_ := Aside0.mk ((by rw [hg]; exact (below_size (by repeat (first | (with_reducible first | exact HB.out | apply below_alloc | apply pw_below_drewN | apply below_drew1) | exact HB.out))) : w.heap.size ≤ gb211)); have n4_ := Aside0.mk ((by rw [hg]; exact (below_size (by repeat (first | (with_reducible first | exact HB.out | apply below_alloc | apply pw_below_drewN | apply below_drew1) | exact HB.out))) : w.heap.size ≤ gb211)); clear HO_3; clear HB; have HO_3 := n0_; have HB := n1_; have BK211 := n2_; have GW211 := n3_; have GE211 := n4_; clear n0_ n1_ n2_ n3_ n4_; clear hb hbox hg; have hcz7_0 : w6.cell? ⟨gb211, 0, none⟩ = some (.int .i64 0) := (blk_cell BK211.out 0).trans rfl; have hcz7_1 : w6.cell? ⟨gb211, 1, none⟩ = some (.int .i64 0) := (blk_cell BK211.out 1).trans rfl; have hcz7_2 : w6.cell? ⟨gb211, 2, none⟩ = some (.int .i64 0) := (blk_cell BK211.out 2).trans rfl; have hfz7_0 := blk_frozen BK211.out 0; have hfz7_1 := blk_frozen BK211.out 1; have hfz7_2 := blk_frozen BK211.out 2) | ((with_reducible refine gate_builtin (b := .append) (xs := #[.tmp 15, .tmp 18]) rfl ?_); at_builtin; refine Kd.R_append (Kd.int .i64) (w0 := w) w.heap.size rfl (.tmp 15) (.tmp 18) 28 3 (.int .i64 0) 8 rfl Try.underlying28 info3 rfl (by decide) (by omega) u3 x3_1 ((rd_T30 l0_1 x11_1).f2) [.int .i64 ((rd_T30 l0_1 x11_1).f2)] (fun _ => True) (fun _ => False) rfl (by first | (go_simp; done) | (go_simp; rfl)) ?aP (fun _ hk => hk.elim) ?aF ?aO ?aB ?aS ?aL ?_; (case aP => exact rfl); (case aB => exact (by repeat (first | (with_reducible first | exact HB.out | apply below_alloc | apply pw_below_drewN | apply below_drew1 | refine below_set ?_ GE211.out) | exact HB.out))); (case aF => exact (fun _ _ => trivial)); (case aO => exact (by (with_reducible repeat (first | apply Kd.R_alloc | apply Kd.R_drewN | apply Kd.R_drew)); exact Kd.R_mono (Kd.R_far (p := ⟨gb211, 2, none⟩) (Kd.R_far (p := ⟨gb211, 1, none⟩) (Kd.R_far (p := ⟨gb211, 0, none⟩) (Kd.R_types HO_3.out BK211.out (by decide)) (fun _ hk => hk.2) (.int .i64 ((rd_T30 l0_1 x11_1).f0))) (fun _ hk => hk.2) (.int .i64 ((rd_T30 l0_1 x11_1).f1))) (fun _ hk => hk.2) (.int .i64 ((rd_T30 l0_1 x11_1).f2))) (fun _ hk => trivial))); (case aS => exact (below_size (by repeat (first | (with_reducible first | exact HB.out | apply below_alloc | apply pw_below_drewN | apply below_drew1 | refine below_set ?_ GE211.out) | exact HB.out)))); (case aL => have := LMc5.out; omega); intro v213 w8 ho hb hg hat; rw [← Ny212.out] at ho; have n0_ := Aside0.mk (blk_grown (g := gb211) (o := .cells #[.int .i64 ((rd_T30 l0_1 x11_1).f0), .int .i64 ((rd_T30 l0_1 x11_1).f1), .int .i64 ((rd_T30 l0_1 x11_1).f2)] 30 (0, 0)) (by (with_reducible repeat (first | refine blk_drewN ?_ _ | refine blk_drew ?_ | refine blk_alloc ?_ _)); refine blk_put (cs := #[.int .i64 ((rd_T30 l0_1 x11_1).f0), .int .i64 ((rd_T30 l0_1 x11_1).f1), .int .i64 0]) ?_ 2 _ rfl; (with_reducible repeat (first | refine blk_drewN ?_ _ | refine blk_drew ?_ | refine blk_alloc ?_ _)); refine blk_put (cs := #[.int .i64 ((rd_T30 l0_1 x11_1).f0), .int .i64 0, .int .i64 0]) ?_ 1 _ rfl; (with_reducible repeat (first | refine blk_drewN ?_ _ | refine blk_drew ?_ | refine blk_alloc ?_ _)); refine blk_put (cs := #[.int .i64 0, .int .i64 0, .int .i64 0]) ?_ 0 _ rfl; (with_reducible repeat (first | refine blk_drewN ?_ _ | refine blk_drew ?_ | refine blk_alloc ?_ _)); exact BK211.out) hg (Kd.R_ne HO_3.out BK211.out (by decide))); have n1_ := Aside0.mk (hb); have n2_ := Aside0.mk (ho); clear BK211; clear HB; clear HO_3; have BK211 := n0_; have HB := n1_; have HO214 := n2_; clear n0_ n1_ n2_; clear ho hb hg hat))
       go_roundg k1
       case measure => have := HK1.out; omega
       case rel => exact ⟨(y212), (wrap64 (x11_1 + 1)), (by first | rfl | (simp; done) | (simp [*]; done)), H', ⟨by have := HK1.out; omega⟩, ⟨by (with_reducible repeat (first | apply Kd.R_alloc | apply Kd.R_drewN | apply Kd.R_drew)); exact HO214.out⟩, ⟨by repeat (first | (with_reducible first | exact HB.out | apply below_alloc | apply pw_below_drewN | apply below_drew1 | refine below_set ?_ GE211.out) | exact HB.out)⟩⟩
      ·rw [if_neg c5] at H
       exact absurd H (by simp)
     ·rw [if_neg c4] at H
      exact absurd H (by simp)
    ·rw [if_neg c3] at H
     exact absurd H (by simp)
   ·rw [if_neg c2] at H
    have c2b0 : decide (x11_1 < (l0_1.length : Int)) = false := decide_eq_false c2
    clear c2
    obtain rfl := Option.some.inj H
    go_wp2
    go_ret
    exact ⟨_, by first | rfl | (simp [errW_none, errW_some] <;> rfl) | (simp [*, errW_none, errW_some] <;> rfl), by (with_reducible repeat (first | apply Kd.R_alloc | apply Kd.R_drewN | apply Kd.R_drew)); exact HO_3.out, by repeat (first | (with_reducible first | exact HB.out | apply below_alloc | apply pw_below_drewN | apply below_drew1) | exact HB.out)⟩
def branch_town_entering.l0 : Nat → Int → List Int → List (S30) → Int → Int → Option (List Int)
  | 0, _, _, _, _, _ => none
  | k + 1, x1, x5, x11, x12, x13 => if x13 < x12 then (if 0 ≤ x13 then (if x13 < (x11.length : Int) then (if 0 ≤ ((rd_T30 x11 x13).f0) then (if (Go.bits .and .i64 (shr .i64 x1 ((rd_T30 x11 x13).f0)) 1) = 0 then (if 0 ≤ ((rd_T30 x11 x13).f1) then (if (Go.bits .and .i64 (shr .i64 x1 ((rd_T30 x11 x13).f1)) 1) = 1 then (if x5.length < 17592186044416 then (branch_town_entering.l0 k x1 (x5 ++ [x13]) x11 x12 (wrap64 (x13 + 1))) else (none)) else (branch_town_entering.l0 k x1 x5 x11 x12 (wrap64 (x13 + 1)))) else (none)) else (branch_town_entering.l0 k x1 x5 x11 x12 (wrap64 (x13 + 1)))) else (none)) else (none)) else (none)) else (some x5)
def branch_town_entering.f (k : Nat) (a0_0 : Int) (l0_1 : List (S30)) (a1 : Int) : Option (List Int) := branch_town_entering.l0 k a1 ([] : List Int) l0_1 (l0_1.length : Int) 0
theorem branch_town_entering.mono_l : ∀ k, (∀ y0 y1 y2 y3 y4, LeO (branch_town_entering.l0 k y0 y1 y2 y3 y4) (branch_town_entering.l0 (k + 1) y0 y1 y2 y3 y4))
  | 0 => fun _ _ _ _ _ r h => by simp [branch_town_entering.l0] at h
  | k + 1 => by
    have ih0 := branch_town_entering.mono_l k
    · intro y0 y1 y2 y3 y4
      unfold branch_town_entering.l0
      repeat' first
      | (with_reducible exact ih0 _ _ _ _ _)
      | (with_reducible exact LeO.refl _)
      | (with_reducible exact LeO.none _)
      | (with_reducible refine LeO.ite ?_ ?_)
      | (with_reducible refine LeO.bind ?_ (fun _ => ?_))
      | exact ih0 _ _ _ _ _
      | exact LeO.none _
      | refine LeO.ite ?_ ?_
      | refine LeO.bind ?_ (fun _ => ?_)
theorem branch_town_entering.mono : ∀ a0 a1 a2 k, LeO (branch_town_entering.f k a0 a1 a2) (branch_town_entering.f (k + 1) a0 a1 a2) := by
  intro a0 a1 a2 k
  have ih0 := branch_town_entering.mono_l k
  unfold branch_town_entering.f
  repeat' first
      | (with_reducible exact ih0 _ _ _ _ _)
      | (with_reducible exact LeO.refl _)
      | (with_reducible exact LeO.none _)
      | (with_reducible refine LeO.ite ?_ ?_)
      | (with_reducible refine LeO.bind ?_ (fun _ => ?_))
      | exact ih0 _ _ _ _ _
      | exact LeO.none _
      | refine LeO.ite ?_ ?_
      | refine LeO.bind ?_ (fun _ => ?_)
set_option maxHeartbeats 8000000 in
set_option maxRecDepth 100000 in
theorem branch_town_entering.calls (k : Nat) (g0 : Nat) (a0_0 : Int) (A0_1 : Option Addr) (c0_1 : Nat) (l0_1 : List (S30)) (a0_2 : Option Nat) (a1 : Int) (r : List Int) (w : World) (hP0 : w.heap[g0]? = some (.cells #[.int .i64 a0_0, .slice A0_1 l0_1.length c0_1, .map a0_2] 70 (0, 0))) (hr0_1 : Kd.C k30 w A0_1 l0_1.length l0_1) (hc0_1 : l0_1.length ≤ c0_1) (h : branch_town_entering.f k a0_0 l0_1 a1 = some r) :
  Calls Try.prog 59 #[.pointer (some ⟨g0, 0, none⟩), .int .i64 a1] w fun e w' => ∃ v0_ : Value, e = .returned (v0_) ∧ Kd.R (Kd.int .i64) 3 w' w.heap.size (fun _ => True) v0_ r ∧ Below w.heap.size w w' := by
 have hu30 := Try.underlying30
 have HP0 := Aside0.mk hP0
 clear hP0
 have HR0_1 := Aside0.mk hr0_1
 have HC0_1 := Aside0.mk hc0_1
 clear hr0_1 hc0_1
 have HB := Aside0.mk (Below.refl w.heap.size w)
 have H : (branch_town_entering.l0 k a1 ([] : List Int) l0_1 (l0_1.length : Int) 0) = some r := h
 clear h
 have H' := Aside0.mk H
 clear H
 have hx215_0 := blk_cell HP0.out 0
 replace hx215_0 := hx215_0.trans rfl
 have hx215_1 := blk_cell HP0.out 1
 replace hx215_1 := hx215_1.trans rfl
 have hx215_2 := blk_cell HP0.out 2
 replace hx215_2 := hx215_2.trans rfl
 go_enter Try.func59, Try.ntmps59
 go_wp2
 go_loopg [5, 13] k (fun kq v5 v13 w' => ∃ (x5_1 : List Int) (x13_1 : Int), v13 = .int .i64 x13_1 ∧ Aside0 (branch_town_entering.l0 kq a1 x5_1 l0_1 (l0_1.length : Int) x13_1 = some r) ∧ Aside0 (kq ≤ k) ∧ Aside0 (Kd.R (Kd.int .i64) 3 w' w.heap.size (fun _ => True) v5 x5_1) ∧ Aside0 (Below w.heap.size w w'))
 case atStart => exact ⟨(([] : List Int)), (0), (by first | rfl | (simp; done) | (simp [*]; done)), H', ⟨Nat.le_refl _⟩, ⟨by first | exact Kd.R_nil _ _ _ _ _ | exact Kd.N_nil _ _ _ _ _ | exact Kd.V_nil _ _ _ _ _ | exact Kd.Q_nil _ _ _ _ _ | exact Kd.S_nil _ _ _ _ _⟩, ⟨by repeat (first | (with_reducible first | exact HB.out | apply below_alloc | apply pw_below_drewN | apply below_drew1) | exact HB.out)⟩⟩
 case round =>
  clear H'
  try clear p2
  try clear hx2
  try clear hx215_0
  try clear hx215_1
  try clear hx215_2
  obtain ⟨x5_1, x13_1, rfl, HA, HK1, HO_5, HB⟩ := hrel
  cases gk with
  | zero => exact absurd HA.out (by simp [branch_town_entering.l0])
  | succ k1 =>
   have H := HA.out
   clear HA
   simp only [branch_town_entering.l0] at H
   by_cases c3 : x13_1 < (l0_1.length : Int)
   ·rw [if_pos c3] at H
    have c3b0 : decide (x13_1 < (l0_1.length : Int)) = true := decide_eq_true c3
    clear c3
    by_cases c4 : 0 ≤ x13_1
    ·rw [if_pos c4] at H
     have c4b0 : decide (0 ≤ x13_1) = true := decide_eq_true c4
     clear c4
     by_cases c5 : x13_1 < (l0_1.length : Int)
     ·rw [if_pos c5] at H
      have c5b0 : decide (x13_1 < (l0_1.length : Int)) = true := decide_eq_true c5
      clear c5
      by_cases c6 : 0 ≤ ((rd_T30 l0_1 x13_1).f0)
      ·rw [if_pos c6] at H
       have c6b0 := eq_true c6
       have c6b1 : decide (0 ≤ ((rd_T30 l0_1 x13_1).f0)) = true := decide_eq_true c6
       clear c6
       obtain ⟨ji7, hji7⟩ : ∃ j_ : Int, (shr .i64 a1 ((rd_T30 l0_1 x13_1).f0)) = j_ := ⟨_, rfl⟩
       replace H : (if (Go.bits .and .i64 (ji7) 1) = 0 then (if 0 ≤ ((rd_T30 l0_1 x13_1).f1) then (if (Go.bits .and .i64 (shr .i64 a1 ((rd_T30 l0_1 x13_1).f1)) 1) = 1 then (if x5_1.length < 17592186044416 then (branch_town_entering.l0 k1 a1 (x5_1 ++ [x13_1]) l0_1 (l0_1.length : Int) (wrap64 (x13_1 + 1))) else (none)) else (branch_town_entering.l0 k1 a1 x5_1 l0_1 (l0_1.length : Int) (wrap64 (x13_1 + 1)))) else (none)) else (branch_town_entering.l0 k1 a1 x5_1 l0_1 (l0_1.length : Int) (wrap64 (x13_1 + 1)))) = some r := by first | (rw [hji7] at H; exact H) | (simp only [hji7] at H ⊢; exact H)
       have hji7_ : (a1 / 2 ^ min ((rd_T30 l0_1 x13_1).f0).toNat 64) = ji7 := hji7
       have hji7z : ((rd_T30 l0_1 x13_1).f0) ≤ 64 → (a1 / 2 ^ ((rd_T30 l0_1 x13_1).f0).toNat) = ji7 := shr_small hji7
       by_cases c8 : (Go.bits .and .i64 (ji7) 1) = 0
       ·rw [if_pos c8] at H
        have c8b0 : ((Go.bits .and .i64 (ji7) 1) == 0) = true := beq_iff_eq.mpr c8
        have c8b1 : ((Go.bits .and .i64 (ji7) 1) != 0) = false := bne_eq_false_iff_eq.mpr c8
        clear c8
        by_cases c9 : 0 ≤ ((rd_T30 l0_1 x13_1).f1)
        ·rw [if_pos c9] at H
         have c9b0 := eq_true c9
         have c9b1 : decide (0 ≤ ((rd_T30 l0_1 x13_1).f1)) = true := decide_eq_true c9
         clear c9
         obtain ⟨ji10, hji10⟩ : ∃ j_ : Int, (shr .i64 a1 ((rd_T30 l0_1 x13_1).f1)) = j_ := ⟨_, rfl⟩
         replace H : (if (Go.bits .and .i64 (ji10) 1) = 1 then (if x5_1.length < 17592186044416 then (branch_town_entering.l0 k1 a1 (x5_1 ++ [x13_1]) l0_1 (l0_1.length : Int) (wrap64 (x13_1 + 1))) else (none)) else (branch_town_entering.l0 k1 a1 x5_1 l0_1 (l0_1.length : Int) (wrap64 (x13_1 + 1)))) = some r := by first | (rw [hji10] at H; exact H) | (simp only [hji10] at H ⊢; exact H)
         have hji10_ : (a1 / 2 ^ min ((rd_T30 l0_1 x13_1).f1).toNat 64) = ji10 := hji10
         have hji10z : ((rd_T30 l0_1 x13_1).f1) ≤ 64 → (a1 / 2 ^ ((rd_T30 l0_1 x13_1).f1).toNat) = ji10 := shr_small hji10
         by_cases c11 : (Go.bits .and .i64 (ji10) 1) = 1
         ·rw [if_pos c11] at H
          have c11b0 : ((Go.bits .and .i64 (ji10) 1) == 1) = true := beq_iff_eq.mpr c11
          have c11b1 : ((Go.bits .and .i64 (ji10) 1) != 1) = false := bne_eq_false_iff_eq.mpr c11
          clear c11
          by_cases c12 : x5_1.length < 17592186044416
          ·rw [if_pos c12] at H
           have LMc12 := Aside0.mk c12
           clear c12
           obtain ⟨y218, hy218⟩ : ∃ y_ : List Int, y_ = (x5_1 ++ [x13_1]) := ⟨_, rfl⟩
           replace H : (branch_town_entering.l0 k1 a1 y218 l0_1 (l0_1.length : Int) (wrap64 (x13_1 + 1))) = some r := by first | (rw [hy218]; with_reducible exact H) | (have H2_ := (Option.bind_some _ _).symm.trans H; rw [hy218]; with_reducible exact H2_) | (have H2_ := (Option.bind_some _ _).symm.trans H; with_reducible exact H2_) | with_reducible exact H | (rw [hy218]; exact H) | exact H
           have Ny218 := Aside0.mk hy218
           clear hy218
           have H' := Aside0.mk H
           clear H
           have p216 : 0 ≤ (x13_1 : Int) := of_decide_eq_true (by first | (with_reducible assumption) | assumption)
           have q216 : x13_1 < (l0_1.length : Int) := of_decide_eq_true (by first | (with_reducible assumption) | assumption)
           obtain ⟨ad216, e216, hx216_0, hx216_1, hx216_2⟩ := at_T30 HR0_1.out x13_1 p216 q216
           cases e216
           replace hx216_0 := (HB.out.cell (World.block_lt_of_cell? w _ hx216_0)).trans hx216_0
           replace hx216_1 := (HB.out.cell (World.block_lt_of_cell? w _ hx216_1)).trans hx216_1
           replace hx216_2 := (HB.out.cell (World.block_lt_of_cell? w _ hx216_2)).trans hx216_2
           replace p216 := eq_true p216
           replace q216 := eq_true q216
           go_wp2_with (first | ((with_reducible refine gate_dst (N := 7) rfl ?_); refine box_event ?hg (N := 7) ?hd (cs := #[.int .i64 0, .int .i64 0, .int .i64 0]) (t := 30) ?hr ?_; (case hd => rfl); (case hg => rfl); (case hr => first | (go_simp; done) | (go_simp; rfl)); intro gb217 hg w13 hbox hb; have n0_ := Aside0.mk (Kd.R_below (by (with_reducible repeat (first | apply Kd.R_alloc | apply Kd.R_drewN | apply Kd.R_drew)); exact HO_5.out) hb); have n1_ := Aside0.mk (below_step (by repeat (first | (with_reducible first | exact HB.out | apply below_alloc | apply pw_below_drewN | apply below_drew1) | exact HB.out)) hb); have n2_ := Aside0.mk (hbox); have n3_ := Aside0.mk ((by rw [hg]; exact (below_size (by repeat (first | (with_reducible first | exact HB.out | apply below_alloc | apply pw_below_drewN | apply below_drew1) | exact HB.out))) : w.heap.size ≤ gb217)); have n4_ := Aside0.mk ((by rw [hg]; exact (below_size (by repeat (first | (with_reducible first | exact HB.out | apply below_alloc | apply pw_below_drewN | apply below_drew1) | exact HB.out))) : w.heap.size ≤ gb217)); clear HO_5; clear HB; have HO_5 := n0_; have HB := n1_; have BK217 := n2_; have GW217 := n3_; have GE217 := n4_; clear n0_ n1_ n2_ n3_ n4_; clear hb hbox hg; have hcz14_0 : w13.cell? ⟨gb217, 0, none⟩ = some (.int .i64 0) := (blk_cell BK217.out 0).trans rfl; have hcz14_1 : w13.cell? ⟨gb217, 1, none⟩ = some (.int .i64 0) := (blk_cell BK217.out 1).trans rfl; have hcz14_2 : w13.cell? ⟨gb217, 2, none⟩ = some (.int .i64 0) := (blk_cell BK217.out 2).trans rfl; have hfz14_0 := blk_frozen BK217.out 0; have hfz14_1 := blk_frozen BK217.out 1; have hfz14_2 := blk_frozen BK217.out 2) | ((with_reducible refine gate_builtin (b := .append) (xs := #[.tmp 32, .tmp 34]) rfl ?_); at_builtin; refine Kd.R_append (Kd.int .i64) (w0 := w) w.heap.size rfl (.tmp 32) (.tmp 34) 28 3 (.int .i64 0) 8 rfl Try.underlying28 info3 rfl (by decide) (by omega) u5 x5_1 x13_1 [.int .i64 x13_1] (fun _ => True) (fun _ => False) rfl (by first | (go_simp; done) | (go_simp; rfl)) ?aP (fun _ hk => hk.elim) ?aF ?aO ?aB ?aS ?aL ?_; (case aP => exact rfl); (case aB => exact (by repeat (first | (with_reducible first | exact HB.out | apply below_alloc | apply pw_below_drewN | apply below_drew1 | refine below_set ?_ GE217.out) | exact HB.out))); (case aF => exact (fun _ _ => trivial)); (case aO => exact (by (with_reducible repeat (first | apply Kd.R_alloc | apply Kd.R_drewN | apply Kd.R_drew)); exact Kd.R_mono (Kd.R_far (p := ⟨gb217, 2, none⟩) (Kd.R_far (p := ⟨gb217, 1, none⟩) (Kd.R_far (p := ⟨gb217, 0, none⟩) (Kd.R_types HO_5.out BK217.out (by decide)) (fun _ hk => hk.2) (.int .i64 ((rd_T30 l0_1 x13_1).f0))) (fun _ hk => hk.2) (.int .i64 ((rd_T30 l0_1 x13_1).f1))) (fun _ hk => hk.2) (.int .i64 ((rd_T30 l0_1 x13_1).f2))) (fun _ hk => trivial))); (case aS => exact (below_size (by repeat (first | (with_reducible first | exact HB.out | apply below_alloc | apply pw_below_drewN | apply below_drew1 | refine below_set ?_ GE217.out) | exact HB.out)))); (case aL => have := LMc12.out; omega); intro v219 w15 ho hb hg hat; rw [← Ny218.out] at ho; have n0_ := Aside0.mk (blk_grown (g := gb217) (o := .cells #[.int .i64 ((rd_T30 l0_1 x13_1).f0), .int .i64 ((rd_T30 l0_1 x13_1).f1), .int .i64 ((rd_T30 l0_1 x13_1).f2)] 30 (0, 0)) (by (with_reducible repeat (first | refine blk_drewN ?_ _ | refine blk_drew ?_ | refine blk_alloc ?_ _)); refine blk_put (cs := #[.int .i64 ((rd_T30 l0_1 x13_1).f0), .int .i64 ((rd_T30 l0_1 x13_1).f1), .int .i64 0]) ?_ 2 _ rfl; (with_reducible repeat (first | refine blk_drewN ?_ _ | refine blk_drew ?_ | refine blk_alloc ?_ _)); refine blk_put (cs := #[.int .i64 ((rd_T30 l0_1 x13_1).f0), .int .i64 0, .int .i64 0]) ?_ 1 _ rfl; (with_reducible repeat (first | refine blk_drewN ?_ _ | refine blk_drew ?_ | refine blk_alloc ?_ _)); refine blk_put (cs := #[.int .i64 0, .int .i64 0, .int .i64 0]) ?_ 0 _ rfl; (with_reducible repeat (first | refine blk_drewN ?_ _ | refine blk_drew ?_ | refine blk_alloc ?_ _)); exact BK217.out) hg (Kd.R_ne HO_5.out BK217.out (by decide))); have n1_ := Aside0.mk (hb); have n2_ := Aside0.mk (ho); clear BK217; clear HB; clear HO_5; have BK217 := n0_; have HB := n1_; have HO220 := n2_; clear n0_ n1_ n2_; clear ho hb hg hat))
           go_roundg k1
           case measure => have := HK1.out; omega
           case rel => exact ⟨(y218), (wrap64 (x13_1 + 1)), (by first | rfl | (simp; done) | (simp [*]; done)), H', ⟨by have := HK1.out; omega⟩, ⟨by (with_reducible repeat (first | apply Kd.R_alloc | apply Kd.R_drewN | apply Kd.R_drew)); exact HO220.out⟩, ⟨by repeat (first | (with_reducible first | exact HB.out | apply below_alloc | apply pw_below_drewN | apply below_drew1 | refine below_set ?_ GE217.out) | exact HB.out)⟩⟩
          ·rw [if_neg c12] at H
           exact absurd H (by simp)
         ·rw [if_neg c11] at H
          have c11b0 : ((Go.bits .and .i64 (ji10) 1) == 1) = false := beq_eq_false_iff_ne.mpr c11
          have c11b1 : ((Go.bits .and .i64 (ji10) 1) != 1) = true := bne_iff_ne.mpr c11
          have H' := Aside0.mk H
          clear H
          have p216 : 0 ≤ (x13_1 : Int) := of_decide_eq_true (by first | (with_reducible assumption) | assumption)
          have q216 : x13_1 < (l0_1.length : Int) := of_decide_eq_true (by first | (with_reducible assumption) | assumption)
          obtain ⟨ad216, e216, hx216_0, hx216_1, hx216_2⟩ := at_T30 HR0_1.out x13_1 p216 q216
          cases e216
          replace hx216_0 := (HB.out.cell (World.block_lt_of_cell? w _ hx216_0)).trans hx216_0
          replace hx216_1 := (HB.out.cell (World.block_lt_of_cell? w _ hx216_1)).trans hx216_1
          replace hx216_2 := (HB.out.cell (World.block_lt_of_cell? w _ hx216_2)).trans hx216_2
          replace p216 := eq_true p216
          replace q216 := eq_true q216
          go_wp2_with (first | ((with_reducible refine gate_dst (N := 7) rfl ?_); refine box_event ?hg (N := 7) ?hd (cs := #[.int .i64 0, .int .i64 0, .int .i64 0]) (t := 30) ?hr ?_; (case hd => rfl); (case hg => rfl); (case hr => first | (go_simp; done) | (go_simp; rfl)); intro gb217 hg w16 hbox hb; have n0_ := Aside0.mk (Kd.R_below (by (with_reducible repeat (first | apply Kd.R_alloc | apply Kd.R_drewN | apply Kd.R_drew)); exact HO_5.out) hb); have n1_ := Aside0.mk (below_step (by repeat (first | (with_reducible first | exact HB.out | apply below_alloc | apply pw_below_drewN | apply below_drew1) | exact HB.out)) hb); have n2_ := Aside0.mk (hbox); have n3_ := Aside0.mk ((by rw [hg]; exact (below_size (by repeat (first | (with_reducible first | exact HB.out | apply below_alloc | apply pw_below_drewN | apply below_drew1) | exact HB.out))) : w.heap.size ≤ gb217)); have n4_ := Aside0.mk ((by rw [hg]; exact (below_size (by repeat (first | (with_reducible first | exact HB.out | apply below_alloc | apply pw_below_drewN | apply below_drew1) | exact HB.out))) : w.heap.size ≤ gb217)); clear HO_5; clear HB; have HO_5 := n0_; have HB := n1_; have BK217 := n2_; have GW217 := n3_; have GE217 := n4_; clear n0_ n1_ n2_ n3_ n4_; clear hb hbox hg; have hcz17_0 : w16.cell? ⟨gb217, 0, none⟩ = some (.int .i64 0) := (blk_cell BK217.out 0).trans rfl; have hcz17_1 : w16.cell? ⟨gb217, 1, none⟩ = some (.int .i64 0) := (blk_cell BK217.out 1).trans rfl; have hcz17_2 : w16.cell? ⟨gb217, 2, none⟩ = some (.int .i64 0) := (blk_cell BK217.out 2).trans rfl; have hfz17_0 := blk_frozen BK217.out 0; have hfz17_1 := blk_frozen BK217.out 1; have hfz17_2 := blk_frozen BK217.out 2))
          go_roundg k1
          case measure => have := HK1.out; omega
          case rel => exact ⟨(x5_1), (wrap64 (x13_1 + 1)), (by first | rfl | (simp; done) | (simp [*]; done)), H', ⟨by have := HK1.out; omega⟩, ⟨by (with_reducible repeat (first | apply Kd.R_alloc | apply Kd.R_drewN | apply Kd.R_drew)); exact Kd.R_mono (Kd.R_far (p := ⟨gb217, 2, none⟩) (Kd.R_far (p := ⟨gb217, 1, none⟩) (Kd.R_far (p := ⟨gb217, 0, none⟩) (Kd.R_types HO_5.out BK217.out (by decide)) (fun _ hk => hk.2) (.int .i64 ((rd_T30 l0_1 x13_1).f0))) (fun _ hk => hk.2) (.int .i64 ((rd_T30 l0_1 x13_1).f1))) (fun _ hk => hk.2) (.int .i64 ((rd_T30 l0_1 x13_1).f2))) (fun _ hk => trivial)⟩, ⟨by repeat (first | (with_reducible first | exact HB.out | apply below_alloc | apply pw_below_drewN | apply below_drew1 | refine below_set ?_ GE217.out) | exact HB.out)⟩⟩
        ·rw [if_neg c9] at H
         exact absurd H (by simp)
       ·rw [if_neg c8] at H
        have c8b0 : ((Go.bits .and .i64 (ji7) 1) == 0) = false := beq_eq_false_iff_ne.mpr c8
        have c8b1 : ((Go.bits .and .i64 (ji7) 1) != 0) = true := bne_iff_ne.mpr c8
        have H' := Aside0.mk H
        clear H
        have p216 : 0 ≤ (x13_1 : Int) := of_decide_eq_true (by first | (with_reducible assumption) | assumption)
        have q216 : x13_1 < (l0_1.length : Int) := of_decide_eq_true (by first | (with_reducible assumption) | assumption)
        obtain ⟨ad216, e216, hx216_0, hx216_1, hx216_2⟩ := at_T30 HR0_1.out x13_1 p216 q216
        cases e216
        replace hx216_0 := (HB.out.cell (World.block_lt_of_cell? w _ hx216_0)).trans hx216_0
        replace hx216_1 := (HB.out.cell (World.block_lt_of_cell? w _ hx216_1)).trans hx216_1
        replace hx216_2 := (HB.out.cell (World.block_lt_of_cell? w _ hx216_2)).trans hx216_2
        replace p216 := eq_true p216
        replace q216 := eq_true q216
        go_wp2_with (first | ((with_reducible refine gate_dst (N := 7) rfl ?_); refine box_event ?hg (N := 7) ?hd (cs := #[.int .i64 0, .int .i64 0, .int .i64 0]) (t := 30) ?hr ?_; (case hd => rfl); (case hg => rfl); (case hr => first | (go_simp; done) | (go_simp; rfl)); intro gb217 hg w18 hbox hb; have n0_ := Aside0.mk (Kd.R_below (by (with_reducible repeat (first | apply Kd.R_alloc | apply Kd.R_drewN | apply Kd.R_drew)); exact HO_5.out) hb); have n1_ := Aside0.mk (below_step (by repeat (first | (with_reducible first | exact HB.out | apply below_alloc | apply pw_below_drewN | apply below_drew1) | exact HB.out)) hb); have n2_ := Aside0.mk (hbox); have n3_ := Aside0.mk ((by rw [hg]; exact (below_size (by repeat (first | (with_reducible first | exact HB.out | apply below_alloc | apply pw_below_drewN | apply below_drew1) | exact HB.out))) : w.heap.size ≤ gb217)); have n4_ := Aside0.mk ((by rw [hg]; exact (below_size (by repeat (first | (with_reducible first | exact HB.out | apply below_alloc | apply pw_below_drewN | apply below_drew1) | exact HB.out))) : w.heap.size ≤ gb217)); clear HO_5; clear HB; have HO_5 := n0_; have HB := n1_; have BK217 := n2_; have GW217 := n3_; have GE217 := n4_; clear n0_ n1_ n2_ n3_ n4_; clear hb hbox hg; have hcz19_0 : w18.cell? ⟨gb217, 0, none⟩ = some (.int .i64 0) := (blk_cell BK217.out 0).trans rfl; have hcz19_1 : w18.cell? ⟨gb217, 1, none⟩ = some (.int .i64 0) := (blk_cell BK217.out 1).trans rfl; have hcz19_2 : w18.cell? ⟨gb217, 2, none⟩ = some (.int .i64 0) := (blk_cell BK217.out 2).trans rfl; have hfz19_0 := blk_frozen BK217.out 0; have hfz19_1 := blk_frozen BK217.out 1; have hfz19_2 := blk_frozen BK217.out 2))
        go_roundg k1
        case measure => have := HK1.out; omega
        case rel => exact ⟨(x5_1), (wrap64 (x13_1 + 1)), (by first | rfl | (simp; done) | (simp [*]; done)), H', ⟨by have := HK1.out; omega⟩, ⟨by (with_reducible repeat (first | apply Kd.R_alloc | apply Kd.R_drewN | apply Kd.R_drew)); exact Kd.R_mono (Kd.R_far (p := ⟨gb217, 2, none⟩) (Kd.R_far (p := ⟨gb217, 1, none⟩) (Kd.R_far (p := ⟨gb217, 0, none⟩) (Kd.R_types HO_5.out BK217.out (by decide)) (fun _ hk => hk.2) (.int .i64 ((rd_T30 l0_1 x13_1).f0))) (fun _ hk => hk.2) (.int .i64 ((rd_T30 l0_1 x13_1).f1))) (fun _ hk => hk.2) (.int .i64 ((rd_T30 l0_1 x13_1).f2))) (fun _ hk => trivial)⟩, ⟨by repeat (first | (with_reducible first | exact HB.out | apply below_alloc | apply pw_below_drewN | apply below_drew1 | refine below_set ?_ GE217.out) | exact HB.out)⟩⟩
      ·rw [if_neg c6] at H
       exact absurd H (by simp)
     ·rw [if_neg c5] at H
      exact absurd H (by simp)
    ·rw [if_neg c4] at H
     exact absurd H (by simp)
   ·rw [if_neg c3] at H
    have c3b0 : decide (x13_1 < (l0_1.length : Int)) = false := decide_eq_false c3
    clear c3
    obtain rfl := Option.some.inj H
    go_wp2
    go_ret
    exact ⟨_, by first | rfl | (simp [errW_none, errW_some] <;> rfl) | (simp [*, errW_none, errW_some] <;> rfl), by (with_reducible repeat (first | apply Kd.R_alloc | apply Kd.R_drewN | apply Kd.R_drew)); exact HO_5.out, by repeat (first | (with_reducible first | exact HB.out | apply below_alloc | apply pw_below_drewN | apply below_drew1) | exact HB.out)⟩
def branch_town_all.l0 : Nat → List Int → Int → Int → Option (List Int)
  | 0, _, _, _ => none
  | k + 1, x3, x9, x10 => if x10 < x9 then (if x3.length < 17592186044416 then (branch_town_all.l0 k (x3 ++ [x10]) x9 (wrap64 (x10 + 1))) else (none)) else (some x3)
def branch_town_all.f (k : Nat) (a0_0 : Int) (l0_1 : List (S30)) : Option (List Int) := branch_town_all.l0 k ([] : List Int) (l0_1.length : Int) 0
mutual
def branch_town_reach.l0 : Nat → List Int → Int → Int → Int → Int → List (S30) → Option (Int)
  | 0, _, _, _, _, _, _ => none
  | k + 1, x1, x5, x12, x13, x1000, x1001 => if x13 < x12 then (branch_town_reach.l1 k x1 x5 x12 x13 x1 (x1.length : Int) 0 x1000 x1001) else (some x5)
def branch_town_reach.l1 : Nat → List Int → Int → Int → Int → List Int → Int → Int → Int → List (S30) → Option (Int)
  | 0, _, _, _, _, _, _, _, _, _ => none
  | k + 1, x1, x5, x12, x13, x15, x16, x17, x1000, x1001 => if x17 < x16 then (if 0 ≤ x17 then (if x17 < (x15.length : Int) then (if 0 ≤ (rd x15 x17) then (if (rd x15 x17) < (x1001.length : Int) then (if 0 ≤ ((rd_T30 x1001 (rd x15 x17)).f0) then (if (Go.bits .and .i64 (shr .i64 x5 ((rd_T30 x1001 (rd x15 x17)).f0)) 1) = 1 then (if 0 ≤ ((rd_T30 x1001 (rd x15 x17)).f1) then (branch_town_reach.l1 k x1 (Go.bits .or .i64 x5 (shl .i64 1 ((rd_T30 x1001 (rd x15 x17)).f1))) x12 x13 x15 x16 (wrap64 (x17 + 1)) x1000 x1001) else (none)) else (branch_town_reach.l1 k x1 x5 x12 x13 x15 x16 (wrap64 (x17 + 1)) x1000 x1001)) else (none)) else (none)) else (none)) else (none)) else (none)) else (branch_town_reach.l0 k x1 x5 x12 (wrap64 (x13 + 1)) x1000 x1001)
end
def branch_town_reach.f (k : Nat) (a0_0 : Int) (l0_1 : List (S30)) (l1 : List Int) : Option (Int) := branch_town_reach.l0 k l1 1 a0_0 0 a0_0 l0_1
set_option maxHeartbeats 8000000 in
set_option maxRecDepth 100000 in
theorem branch_town_reach.calls (k : Nat) (g0 : Nat) (a0_0 : Int) (A0_1 : Option Addr) (c0_1 : Nat) (l0_1 : List (S30)) (a0_2 : Option Nat) (A1 : Option Addr) (c1 : Nat) (l1 : List Int) (r : Int) (w : World) (hP0 : w.heap[g0]? = some (.cells #[.int .i64 a0_0, .slice A0_1 l0_1.length c0_1, .map a0_2] 70 (0, 0))) (hr0_1 : Kd.C k30 w A0_1 l0_1.length l0_1) (hc0_1 : l0_1.length ≤ c0_1) (hr1 : Kd.C (Kd.int .i64) w A1 l1.length l1) (hc1 : l1.length ≤ c1) (h : branch_town_reach.f k a0_0 l0_1 l1 = some r) :
  Calls Try.prog 54 #[.pointer (some ⟨g0, 0, none⟩), .slice A1 l1.length c1] w fun e w' => e = .returned (.int .i64 r) ∧ Below w.heap.size w w' := by
 have hu30 := Try.underlying30
 have HP0 := Aside0.mk hP0
 clear hP0
 have HR0_1 := Aside0.mk hr0_1
 have HC0_1 := Aside0.mk hc0_1
 clear hr0_1 hc0_1
 have HR1 := Aside0.mk hr1
 have HC1 := Aside0.mk hc1
 clear hr1 hc1
 have HB := Aside0.mk (Below.refl w.heap.size w)
 have H : (branch_town_reach.l0 k l1 1 a0_0 0 a0_0 l0_1) = some r := h
 clear h
 have H' := Aside0.mk H
 clear H
 have hx225_0 := blk_cell HP0.out 0
 replace hx225_0 := hx225_0.trans rfl
 have hx225_1 := blk_cell HP0.out 1
 replace hx225_1 := hx225_1.trans rfl
 have hx225_2 := blk_cell HP0.out 2
 replace hx225_2 := hx225_2.trans rfl
 go_enter Try.func54, Try.ntmps54
 go_wp2
 go_loopg [5, 13] k (fun kq v5 v13 w' => ∃ (x5_1 : Int) (x13_1 : Int), v5 = .int .i64 x5_1 ∧ v13 = .int .i64 x13_1 ∧ Aside0 (branch_town_reach.l0 kq l1 x5_1 a0_0 x13_1 a0_0 l0_1 = some r) ∧ Aside0 (kq ≤ k) ∧ Aside0 (Below w.heap.size w w'))
 case atStart => exact ⟨(1), (0), (by first | rfl | (simp; done) | (simp [*]; done)), (by first | rfl | (simp; done) | (simp [*]; done)), H', ⟨Nat.le_refl _⟩, ⟨by repeat (first | (with_reducible first | exact HB.out | apply below_alloc | apply pw_below_drewN | apply below_drew1) | exact HB.out)⟩⟩
 case round =>
  clear H'
  try clear c1
  try clear p2
  try clear hx2
  try clear hx225_0
  try clear hx225_1
  try clear hx225_2
  obtain ⟨x5_1, x13_1, rfl, rfl, HA, HK1, HB⟩ := hrel
  cases gk with
  | zero => exact absurd HA.out (by simp [branch_town_reach.l0])
  | succ k1 =>
   have H := HA.out
   clear HA
   simp only [branch_town_reach.l0] at H
   by_cases c3 : x13_1 < a0_0
   ·rw [if_pos c3] at H
    have c3b0 : decide (x13_1 < a0_0) = true := decide_eq_true c3
    clear c3
    have H' := Aside0.mk H
    clear H
    go_wp2
    go_loopg [5, 17] k1 (fun kq v5 v17 w' => ∃ (x5_2 : Int) (x17_2 : Int), v5 = .int .i64 x5_2 ∧ v17 = .int .i64 x17_2 ∧ Aside0 (branch_town_reach.l1 kq l1 x5_2 a0_0 x13_1 l1 (l1.length : Int) x17_2 a0_0 l0_1 = some r) ∧ Aside0 (kq ≤ k1) ∧ Aside0 (Below w.heap.size w w'))
    case atStart => exact ⟨(x5_1), (0), (by first | rfl | (simp; done) | (simp [*]; done)), (by first | rfl | (simp; done) | (simp [*]; done)), H', ⟨Nat.le_refl _⟩, ⟨by repeat (first | (with_reducible first | exact HB.out | apply below_alloc | apply pw_below_drewN | apply below_drew1) | exact HB.out)⟩⟩
    case round =>
     clear H'
     try clear c1
     try clear p2
     try clear hx2
     try clear c3
     try clear c3b0
     try clear hx225_0
     try clear hx225_1
     try clear hx225_2
     try clear p2
     obtain ⟨x5_2, x17_2, rfl, rfl, HA, HK2, HB⟩ := hrel
     cases gk with
     | zero => exact absurd HA.out (by simp [branch_town_reach.l1])
     | succ k2 =>
      have H := HA.out
      clear HA
      simp only [branch_town_reach.l1] at H
      by_cases c4 : x17_2 < (l1.length : Int)
      ·rw [if_pos c4] at H
       have c4b0 : decide (x17_2 < (l1.length : Int)) = true := decide_eq_true c4
       clear c4
       by_cases c5 : 0 ≤ x17_2
       ·rw [if_pos c5] at H
        have c5b0 : decide (0 ≤ x17_2) = true := decide_eq_true c5
        clear c5
        by_cases c6 : x17_2 < (l1.length : Int)
        ·rw [if_pos c6] at H
         have c6b0 : decide (x17_2 < (l1.length : Int)) = true := decide_eq_true c6
         clear c6
         by_cases c7 : 0 ≤ (rd l1 x17_2)
         ·rw [if_pos c7] at H
          have c7b0 : decide (0 ≤ (rd l1 x17_2)) = true := decide_eq_true c7
          clear c7
          by_cases c8 : (rd l1 x17_2) < (l0_1.length : Int)
          ·rw [if_pos c8] at H
           have c8b0 : decide ((rd l1 x17_2) < (l0_1.length : Int)) = true := decide_eq_true c8
           clear c8
           by_cases c9 : 0 ≤ ((rd_T30 l0_1 (rd l1 x17_2)).f0)
           ·rw [if_pos c9] at H
            have c9b0 := eq_true c9
            have c9b1 : decide (0 ≤ ((rd_T30 l0_1 (rd l1 x17_2)).f0)) = true := decide_eq_true c9
            clear c9
            obtain ⟨ji10, hji10⟩ : ∃ j_ : Int, (shr .i64 x5_2 ((rd_T30 l0_1 (rd l1 x17_2)).f0)) = j_ := ⟨_, rfl⟩
            replace H : (if (Go.bits .and .i64 (ji10) 1) = 1 then (if 0 ≤ ((rd_T30 l0_1 (rd l1 x17_2)).f1) then (branch_town_reach.l1 k2 l1 (Go.bits .or .i64 x5_2 (shl .i64 1 ((rd_T30 l0_1 (rd l1 x17_2)).f1))) a0_0 x13_1 l1 (l1.length : Int) (wrap64 (x17_2 + 1)) a0_0 l0_1) else (none)) else (branch_town_reach.l1 k2 l1 x5_2 a0_0 x13_1 l1 (l1.length : Int) (wrap64 (x17_2 + 1)) a0_0 l0_1)) = some r := by first | (rw [hji10] at H; exact H) | (simp only [hji10] at H ⊢; exact H)
            have hji10_ : (x5_2 / 2 ^ min ((rd_T30 l0_1 (rd l1 x17_2)).f0).toNat 64) = ji10 := hji10
            have hji10z : ((rd_T30 l0_1 (rd l1 x17_2)).f0) ≤ 64 → (x5_2 / 2 ^ ((rd_T30 l0_1 (rd l1 x17_2)).f0).toNat) = ji10 := shr_small hji10
            by_cases c11 : (Go.bits .and .i64 (ji10) 1) = 1
            ·rw [if_pos c11] at H
             have c11b0 : ((Go.bits .and .i64 (ji10) 1) == 1) = true := beq_iff_eq.mpr c11
             have c11b1 : ((Go.bits .and .i64 (ji10) 1) != 1) = false := bne_eq_false_iff_eq.mpr c11
             clear c11
             by_cases c12 : 0 ≤ ((rd_T30 l0_1 (rd l1 x17_2)).f1)
             ·rw [if_pos c12] at H
              have c12b0 := eq_true c12
              have c12b1 : decide (0 ≤ ((rd_T30 l0_1 (rd l1 x17_2)).f1)) = true := decide_eq_true c12
              clear c12
              obtain ⟨ji13, hji13⟩ : ∃ j_ : Int, (shl .i64 1 ((rd_T30 l0_1 (rd l1 x17_2)).f1)) = j_ := ⟨_, rfl⟩
              replace H : (branch_town_reach.l1 k2 l1 (Go.bits .or .i64 x5_2 (ji13)) a0_0 x13_1 l1 (l1.length : Int) (wrap64 (x17_2 + 1)) a0_0 l0_1) = some r := by first | (rw [hji13] at H; exact H) | (simp only [hji13] at H ⊢; exact H)
              have hji13_ : (IntKind.i64.wrap (1 * 2 ^ min ((rd_T30 l0_1 (rd l1 x17_2)).f1).toNat 64)) = ji13 := hji13
              have hji13z : ((rd_T30 l0_1 (rd l1 x17_2)).f1) ≤ 64 → (IntKind.i64.wrap (1 * 2 ^ ((rd_T30 l0_1 (rd l1 x17_2)).f1).toNat)) = ji13 := shl_small hji13
              have hji13u : (IntKind.i64.wrap (2 ^ min ((rd_T30 l0_1 (rd l1 x17_2)).f1).toNat 64)) = ji13 := by have h_ := hji13_; rw [Int.one_mul] at h_; exact h_
              have hji13v : ((rd_T30 l0_1 (rd l1 x17_2)).f1) ≤ 64 → (IntKind.i64.wrap (2 ^ ((rd_T30 l0_1 (rd l1 x17_2)).f1).toNat)) = ji13 := fun hle_ => by have h_ := hji13z hle_; rw [Int.one_mul] at h_; exact h_
              have hji13y : (wrap64 (1 * 2 ^ min ((rd_T30 l0_1 (rd l1 x17_2)).f1).toNat 64)) = ji13 := (i64_w _).symm.trans hji13_
              have hji13x : ((rd_T30 l0_1 (rd l1 x17_2)).f1) ≤ 64 → (wrap64 (1 * 2 ^ ((rd_T30 l0_1 (rd l1 x17_2)).f1).toNat)) = ji13 := fun h_ => (i64_w _).symm.trans (hji13z h_)
              have H' := Aside0.mk H
              clear H
              have p226 : 0 ≤ (x17_2 : Int) := of_decide_eq_true (by first | (with_reducible assumption) | assumption)
              have q226 : x17_2 < (l1.length : Int) := of_decide_eq_true (by first | (with_reducible assumption) | assumption)
              obtain ⟨ad226, e226, hx226_0⟩ := Kd.at_int HR1.out x17_2 p226 q226
              cases e226
              replace hx226_0 := (HB.out.cell (World.block_lt_of_cell? w _ hx226_0)).trans hx226_0
              replace p226 := eq_true p226
              replace q226 := eq_true q226
              have hx227_0 := blk_cell HP0.out 0
              replace hx227_0 := hx227_0.trans rfl
              replace hx227_0 := (HB.out.cell (World.block_lt_of_cell? w _ hx227_0)).trans hx227_0
              have hx227_1 := blk_cell HP0.out 1
              replace hx227_1 := hx227_1.trans rfl
              replace hx227_1 := (HB.out.cell (World.block_lt_of_cell? w _ hx227_1)).trans hx227_1
              have hx227_2 := blk_cell HP0.out 2
              replace hx227_2 := hx227_2.trans rfl
              replace hx227_2 := (HB.out.cell (World.block_lt_of_cell? w _ hx227_2)).trans hx227_2
              have p228 : 0 ≤ ((rd l1 x17_2) : Int) := of_decide_eq_true (by first | (with_reducible assumption) | assumption)
              have q228 : (rd l1 x17_2) < (l0_1.length : Int) := of_decide_eq_true (by first | (with_reducible assumption) | assumption)
              obtain ⟨ad228, e228, hx228_0, hx228_1, hx228_2⟩ := at_T30 HR0_1.out (rd l1 x17_2) p228 q228
              cases e228
              replace hx228_0 := (HB.out.cell (World.block_lt_of_cell? w _ hx228_0)).trans hx228_0
              replace hx228_1 := (HB.out.cell (World.block_lt_of_cell? w _ hx228_1)).trans hx228_1
              replace hx228_2 := (HB.out.cell (World.block_lt_of_cell? w _ hx228_2)).trans hx228_2
              replace p228 := eq_true p228
              replace q228 := eq_true q228
              go_wp2_with (first | ((with_reducible refine gate_dst (N := 8) rfl ?_); refine box_event ?hg (N := 8) ?hd (cs := #[.int .i64 0, .int .i64 0, .int .i64 0]) (t := 30) ?hr ?_; (case hd => rfl); (case hg => rfl); (case hr => first | (go_simp; done) | (go_simp; rfl)); intro gb229 hg w14 hbox hb; have n0_ := Aside0.mk (below_step (by repeat (first | (with_reducible first | exact HB.out | apply below_alloc | apply pw_below_drewN | apply below_drew1) | exact HB.out)) hb); have n1_ := Aside0.mk (hbox); have n2_ := Aside0.mk ((by rw [hg]; exact (below_size (by repeat (first | (with_reducible first | exact HB.out | apply below_alloc | apply pw_below_drewN | apply below_drew1) | exact HB.out))) : w.heap.size ≤ gb229)); have n3_ := Aside0.mk ((by rw [hg]; exact (below_size (by repeat (first | (with_reducible first | exact HB.out | apply below_alloc | apply pw_below_drewN | apply below_drew1) | exact HB.out))) : w.heap.size ≤ gb229)); clear HB; have HB := n0_; have BK229 := n1_; have GW229 := n2_; have GE229 := n3_; clear n0_ n1_ n2_ n3_; clear hb hbox hg; have hcz15_0 : w14.cell? ⟨gb229, 0, none⟩ = some (.int .i64 0) := (blk_cell BK229.out 0).trans rfl; have hcz15_1 : w14.cell? ⟨gb229, 1, none⟩ = some (.int .i64 0) := (blk_cell BK229.out 1).trans rfl; have hcz15_2 : w14.cell? ⟨gb229, 2, none⟩ = some (.int .i64 0) := (blk_cell BK229.out 2).trans rfl; have hfz15_0 := blk_frozen BK229.out 0; have hfz15_1 := blk_frozen BK229.out 1; have hfz15_2 := blk_frozen BK229.out 2))
              go_roundg k2
              case measure => have := HK1.out; have := HK2.out; omega
              case rel => exact ⟨(Go.bits .or .i64 x5_2 (ji13)), (wrap64 (x17_2 + 1)), (by first | rfl | (simp; done) | (simp only [← hji13] <;> (first | rfl | simp)) | (simp [*]; done)), (by first | rfl | (simp; done) | (simp [*]; done)), H', ⟨by have := HK1.out; have := HK2.out; omega⟩, ⟨by repeat (first | (with_reducible first | exact HB.out | apply below_alloc | apply pw_below_drewN | apply below_drew1 | refine below_set ?_ GE229.out) | exact HB.out)⟩⟩
             ·rw [if_neg c12] at H
              exact absurd H (by simp)
            ·rw [if_neg c11] at H
             have c11b0 : ((Go.bits .and .i64 (ji10) 1) == 1) = false := beq_eq_false_iff_ne.mpr c11
             have c11b1 : ((Go.bits .and .i64 (ji10) 1) != 1) = true := bne_iff_ne.mpr c11
             have H' := Aside0.mk H
             clear H
             have p226 : 0 ≤ (x17_2 : Int) := of_decide_eq_true (by first | (with_reducible assumption) | assumption)
             have q226 : x17_2 < (l1.length : Int) := of_decide_eq_true (by first | (with_reducible assumption) | assumption)
             obtain ⟨ad226, e226, hx226_0⟩ := Kd.at_int HR1.out x17_2 p226 q226
             cases e226
             replace hx226_0 := (HB.out.cell (World.block_lt_of_cell? w _ hx226_0)).trans hx226_0
             replace p226 := eq_true p226
             replace q226 := eq_true q226
             have hx227_0 := blk_cell HP0.out 0
             replace hx227_0 := hx227_0.trans rfl
             replace hx227_0 := (HB.out.cell (World.block_lt_of_cell? w _ hx227_0)).trans hx227_0
             have hx227_1 := blk_cell HP0.out 1
             replace hx227_1 := hx227_1.trans rfl
             replace hx227_1 := (HB.out.cell (World.block_lt_of_cell? w _ hx227_1)).trans hx227_1
             have hx227_2 := blk_cell HP0.out 2
             replace hx227_2 := hx227_2.trans rfl
             replace hx227_2 := (HB.out.cell (World.block_lt_of_cell? w _ hx227_2)).trans hx227_2
             have p228 : 0 ≤ ((rd l1 x17_2) : Int) := of_decide_eq_true (by first | (with_reducible assumption) | assumption)
             have q228 : (rd l1 x17_2) < (l0_1.length : Int) := of_decide_eq_true (by first | (with_reducible assumption) | assumption)
             obtain ⟨ad228, e228, hx228_0, hx228_1, hx228_2⟩ := at_T30 HR0_1.out (rd l1 x17_2) p228 q228
             cases e228
             replace hx228_0 := (HB.out.cell (World.block_lt_of_cell? w _ hx228_0)).trans hx228_0
             replace hx228_1 := (HB.out.cell (World.block_lt_of_cell? w _ hx228_1)).trans hx228_1
             replace hx228_2 := (HB.out.cell (World.block_lt_of_cell? w _ hx228_2)).trans hx228_2
             replace p228 := eq_true p228
             replace q228 := eq_true q228
             go_wp2_with (first | ((with_reducible refine gate_dst (N := 8) rfl ?_); refine box_event ?hg (N := 8) ?hd (cs := #[.int .i64 0, .int .i64 0, .int .i64 0]) (t := 30) ?hr ?_; (case hd => rfl); (case hg => rfl); (case hr => first | (go_simp; done) | (go_simp; rfl)); intro gb229 hg w16 hbox hb; have n0_ := Aside0.mk (below_step (by repeat (first | (with_reducible first | exact HB.out | apply below_alloc | apply pw_below_drewN | apply below_drew1) | exact HB.out)) hb); have n1_ := Aside0.mk (hbox); have n2_ := Aside0.mk ((by rw [hg]; exact (below_size (by repeat (first | (with_reducible first | exact HB.out | apply below_alloc | apply pw_below_drewN | apply below_drew1) | exact HB.out))) : w.heap.size ≤ gb229)); have n3_ := Aside0.mk ((by rw [hg]; exact (below_size (by repeat (first | (with_reducible first | exact HB.out | apply below_alloc | apply pw_below_drewN | apply below_drew1) | exact HB.out))) : w.heap.size ≤ gb229)); clear HB; have HB := n0_; have BK229 := n1_; have GW229 := n2_; have GE229 := n3_; clear n0_ n1_ n2_ n3_; clear hb hbox hg; have hcz17_0 : w16.cell? ⟨gb229, 0, none⟩ = some (.int .i64 0) := (blk_cell BK229.out 0).trans rfl; have hcz17_1 : w16.cell? ⟨gb229, 1, none⟩ = some (.int .i64 0) := (blk_cell BK229.out 1).trans rfl; have hcz17_2 : w16.cell? ⟨gb229, 2, none⟩ = some (.int .i64 0) := (blk_cell BK229.out 2).trans rfl; have hfz17_0 := blk_frozen BK229.out 0; have hfz17_1 := blk_frozen BK229.out 1; have hfz17_2 := blk_frozen BK229.out 2))
             go_roundg k2
             case measure => have := HK1.out; have := HK2.out; omega
             case rel => exact ⟨(x5_2), (wrap64 (x17_2 + 1)), (by first | rfl | (simp; done) | (simp [*]; done)), (by first | rfl | (simp; done) | (simp [*]; done)), H', ⟨by have := HK1.out; have := HK2.out; omega⟩, ⟨by repeat (first | (with_reducible first | exact HB.out | apply below_alloc | apply pw_below_drewN | apply below_drew1 | refine below_set ?_ GE229.out) | exact HB.out)⟩⟩
           ·rw [if_neg c9] at H
            exact absurd H (by simp)
          ·rw [if_neg c8] at H
           exact absurd H (by simp)
         ·rw [if_neg c7] at H
          exact absurd H (by simp)
        ·rw [if_neg c6] at H
         exact absurd H (by simp)
       ·rw [if_neg c5] at H
        exact absurd H (by simp)
      ·rw [if_neg c4] at H
       have c4b0 : decide (x17_2 < (l1.length : Int)) = false := decide_eq_false c4
       clear c4
       have H' := Aside0.mk H
       clear H
       go_wp2
       go_roundg k2
       case measure => have := HK1.out; have := HK2.out; omega
       case rel => exact ⟨(x5_2), (wrap64 (x13_1 + 1)), (by first | rfl | (simp; done) | (simp [*]; done)), (by first | rfl | (simp; done) | (simp [*]; done)), H', ⟨by have := HK1.out; have := HK2.out; omega⟩, ⟨by repeat (first | (with_reducible first | exact HB.out | apply below_alloc | apply pw_below_drewN | apply below_drew1) | exact HB.out)⟩⟩
   ·rw [if_neg c3] at H
    have c3b0 : decide (x13_1 < a0_0) = false := decide_eq_false c3
    clear c3
    obtain rfl := Option.some.inj H
    go_wp2
    go_ret
    exact ⟨by first | rfl | (simp [errW_none, errW_some] <;> rfl) | (simp [*, errW_none, errW_some] <;> rfl), by repeat (first | (with_reducible first | exact HB.out | apply below_alloc | apply pw_below_drewN | apply below_drew1) | exact HB.out)⟩
def branch_town_everybody.f (a0_0 : Int) (l0_1 : List (S30)) : Option (Int) := if 0 ≤ a0_0 then (some (wrap64 ((shl .i64 1 a0_0) - 1))) else (none)
set_option maxHeartbeats 8000000 in
set_option maxRecDepth 100000 in
theorem branch_town_everybody.calls (g0 : Nat) (a0_0 : Int) (A0_1 : Option Addr) (c0_1 : Nat) (l0_1 : List (S30)) (a0_2 : Option Nat) (r : Int) (w : World) (hP0 : w.heap[g0]? = some (.cells #[.int .i64 a0_0, .slice A0_1 l0_1.length c0_1, .map a0_2] 70 (0, 0))) (hr0_1 : Kd.C k30 w A0_1 l0_1.length l0_1) (hc0_1 : l0_1.length ≤ c0_1) (h : branch_town_everybody.f a0_0 l0_1 = some r) :
  Calls Try.prog 74 #[.pointer (some ⟨g0, 0, none⟩)] w fun e w' => e = .returned (.int .i64 r) ∧ Drawn0 w w' := by
 have HP0 := Aside0.mk hP0
 clear hP0
 have HR0_1 := Aside0.mk hr0_1
 have HC0_1 := Aside0.mk hc0_1
 clear hr0_1 hc0_1
 have H : (if 0 ≤ a0_0 then (some (wrap64 ((shl .i64 1 a0_0) - 1))) else (none)) = some r := h
 clear h
 by_cases c2 : 0 ≤ a0_0
 ·rw [if_pos c2] at H
  have c2b0 := eq_true c2
  have c2b1 : decide (0 ≤ a0_0) = true := decide_eq_true c2
  clear c2
  obtain ⟨ji3, hji3⟩ : ∃ j_ : Int, (shl .i64 1 a0_0) = j_ := ⟨_, rfl⟩
  replace H : (some (wrap64 ((ji3) - 1))) = some r := by first | (rw [hji3] at H; exact H) | (simp only [hji3] at H ⊢; exact H)
  have hji3_ : (IntKind.i64.wrap (1 * 2 ^ min a0_0.toNat 64)) = ji3 := hji3
  have hji3z : a0_0 ≤ 64 → (IntKind.i64.wrap (1 * 2 ^ a0_0.toNat)) = ji3 := shl_small hji3
  have hji3u : (IntKind.i64.wrap (2 ^ min a0_0.toNat 64)) = ji3 := by have h_ := hji3_; rw [Int.one_mul] at h_; exact h_
  have hji3v : a0_0 ≤ 64 → (IntKind.i64.wrap (2 ^ a0_0.toNat)) = ji3 := fun hle_ => by have h_ := hji3z hle_; rw [Int.one_mul] at h_; exact h_
  have hji3y : (wrap64 (1 * 2 ^ min a0_0.toNat 64)) = ji3 := (i64_w _).symm.trans hji3_
  have hji3x : a0_0 ≤ 64 → (wrap64 (1 * 2 ^ a0_0.toNat)) = ji3 := fun h_ => (i64_w _).symm.trans (hji3z h_)
  obtain rfl := Option.some.inj H
  have hx230_0 := blk_cell HP0.out 0
  replace hx230_0 := hx230_0.trans rfl
  have hx230_1 := blk_cell HP0.out 1
  replace hx230_1 := hx230_1.trans rfl
  have hx230_2 := blk_cell HP0.out 2
  replace hx230_2 := hx230_2.trans rfl
  go_enter Try.func74, Try.ntmps74
  go_wp2
  go_ret
  exact ⟨by first | rfl | (simp; done) | (simp only [← hji3] <;> (first | rfl | simp)) | (simp [*]; done), by repeat (first | exact Drawn0.refl _ | apply Drawn0.step)⟩
 ·rw [if_neg c2] at H
  exact absurd H (by simp)
end Go.Proofs.Ytpmadffgdfholaa.B
namespace Go.Proofs.Ytpmadffgdfholaa.B
open Go.RowKit Go.Proofs.YtpmadffgdfholaaW.PrintWords Go.Proofs.YtpmadffgdfholaaW.PrintLast Go.Proofs.YtpmadffgdfholaaW.PrintMore
attribute [local go_sem] max2_int min2_int max_two min_two max_three min_three max_four min_four   -- for this text's walks alone
set_option linter.unusedVariables false
set_option linter.unusedSimpArgs false
mutual
def branch_town_is.l0 : Nat → List Int → Int → Int → List Int → Int → Int → Int → List (S30) → Option (Int × Bool)
  | 0, _, _, _, _, _, _, _, _ => none
  | k + 1, x1, x6, x7, x18, x19, x20, x1000, x1001 => if x20 < x19 then (if 0 ≤ x20 then (if x20 < (x18.length : Int) then (if (rd x18 x20) < 0 then (branch_town_is.j1 k x1 x6 x7 (rd x18 x20) x18 x19 x20 true x1000 x1001) else (if (rd x18 x20) ≥ (x1001.length : Int) then (branch_town_is.j1 k x1 x6 x7 (rd x18 x20) x18 x19 x20 true x1000 x1001) else (if x20 > 0 then (if 0 ≤ (wrap64 (x20 - 1)) then (if (wrap64 (x20 - 1)) < (x1.length : Int) then (if (rd x18 x20) ≤ (rd x1 (wrap64 (x20 - 1))) then (branch_town_is.j1 k x1 x6 x7 (rd x18 x20) x18 x19 x20 true x1000 x1001) else (if 0 ≤ (rd x18 x20) then (if (rd x18 x20) < (x1001.length : Int) then (if 0 ≤ ((rd_T30 x1001 (rd x18 x20)).f1) then (branch_town_is.j1 k x1 x6 x7 (rd x18 x20) x18 x19 x20 ((Go.bits .and .i64 (shr .i64 x7 ((rd_T30 x1001 (rd x18 x20)).f1)) 1) == 1) x1000 x1001) else (none)) else (none)) else (none))) else (none)) else (none)) else (if 0 ≤ (rd x18 x20) then (if (rd x18 x20) < (x1001.length : Int) then (if 0 ≤ ((rd_T30 x1001 (rd x18 x20)).f1) then (branch_town_is.j1 k x1 x6 x7 (rd x18 x20) x18 x19 x20 ((Go.bits .and .i64 (shr .i64 x7 ((rd_T30 x1001 (rd x18 x20)).f1)) 1) == 1) x1000 x1001) else (none)) else (none)) else (none))))) else (none)) else (none)) else ((branch_town_reach.f k x1000 x1001 x1).bind fun t243 => ((branch_town_everybody.f x1000 x1001).bind fun t244 => (if t243 = t244 then (some (x6, true)) else (some (0, false)))))
def branch_town_is.j1 : Nat → List Int → Int → Int → Int → List Int → Int → Int → Bool → Int → List (S30) → Option (Int × Bool)
  | 0, _, _, _, _, _, _, _, _, _, _ => none
  | k + 1, x1, x6, x7, x9, x18, x19, x20, x62, x1000, x1001 => if x62 = true then (some (0, false)) else (if 0 ≤ x9 then (if x9 < (x1001.length : Int) then (if 0 ≤ ((rd_T30 x1001 x9).f1) then (branch_town_is.l0 k x1 (wrap64 (x6 + ((rd_T30 x1001 x9).f2))) (Go.bits .or .i64 x7 (shl .i64 1 ((rd_T30 x1001 x9).f1))) x18 x19 (wrap64 (x20 + 1)) x1000 x1001) else (none)) else (none)) else (none))
end
def branch_town_is.f (k : Nat) (a0_0 : Int) (l0_1 : List (S30)) (l1 : List Int) : Option (Int × Bool) := if (l1.length : Int) = (wrap64 (a0_0 - 1)) then (branch_town_is.l0 k l1 0 1 l1 (l1.length : Int) 0 a0_0 l0_1) else (some (0, false))
set_option maxHeartbeats 8000000 in
set_option maxRecDepth 100000 in
theorem branch_town_is.calls (k : Nat) (g0 : Nat) (a0_0 : Int) (A0_1 : Option Addr) (c0_1 : Nat) (l0_1 : List (S30)) (a0_2 : Option Nat) (A1 : Option Addr) (c1 : Nat) (l1 : List Int) (r1 : Int) (r2 : Bool) (w : World) (hP0 : w.heap[g0]? = some (.cells #[.int .i64 a0_0, .slice A0_1 l0_1.length c0_1, .map a0_2] 70 (0, 0))) (hr0_1 : Kd.C k30 w A0_1 l0_1.length l0_1) (hc0_1 : l0_1.length ≤ c0_1) (hr1 : Kd.C (Kd.int .i64) w A1 l1.length l1) (hc1 : l1.length ≤ c1) (h : branch_town_is.f k a0_0 l0_1 l1 = some (r1, r2)) :
  Calls Try.prog 61 #[.pointer (some ⟨g0, 0, none⟩), .slice A1 l1.length c1] w fun e w' => e = .returned (.tuple #[.int .i64 r1, .bool r2]) ∧ Below w.heap.size w w' := by
 have HP0 := Aside0.mk hP0
 clear hP0
 have HR0_1 := Aside0.mk hr0_1
 have HC0_1 := Aside0.mk hc0_1
 clear hr0_1 hc0_1
 have HR1 := Aside0.mk hr1
 have HC1 := Aside0.mk hc1
 clear hr1 hc1
 have HB := Aside0.mk (Below.refl w.heap.size w)
 have H : (if (l1.length : Int) = (wrap64 (a0_0 - 1)) then (branch_town_is.l0 k l1 0 1 l1 (l1.length : Int) 0 a0_0 l0_1) else (some (0, false))) = some (r1, r2) := h
 clear h
 by_cases c3 : (l1.length : Int) = (wrap64 (a0_0 - 1))
 ·rw [if_pos c3] at H
  have c3b0 : ((l1.length : Int) == (wrap64 (a0_0 - 1))) = true := beq_iff_eq.mpr c3
  have c3b1 : ((l1.length : Int) != (wrap64 (a0_0 - 1))) = false := bne_eq_false_iff_eq.mpr c3
  clear c3
  have H' := Aside0.mk H
  clear H
  have hx231_0 := blk_cell HP0.out 0
  replace hx231_0 := hx231_0.trans rfl
  have hx231_1 := blk_cell HP0.out 1
  replace hx231_1 := hx231_1.trans rfl
  have hx231_2 := blk_cell HP0.out 2
  replace hx231_2 := hx231_2.trans rfl
  go_enter Try.func61, Try.ntmps61
  go_wp2
  go_loopg [6, 7, 20] k (fun kq v6 v7 v20 w' => ∃ (x6_1 : Int) (x7_1 : Int) (x20_1 : Int), v6 = .int .i64 x6_1 ∧ v7 = .int .i64 x7_1 ∧ v20 = .int .i64 x20_1 ∧ Aside0 (branch_town_is.l0 kq l1 x6_1 x7_1 l1 (l1.length : Int) x20_1 a0_0 l0_1 = some (r1, r2)) ∧ Aside0 (kq ≤ k) ∧ Aside0 (Below w.heap.size w w'))
  case atStart => exact ⟨(0), (1), (0), (by first | rfl | (simp; done) | (simp [*]; done)), (by first | rfl | (simp; done) | (simp [*]; done)), (by first | rfl | (simp; done) | (simp [*]; done)), H', ⟨Nat.le_refl _⟩, ⟨by repeat (first | (with_reducible first | exact HB.out | apply below_alloc | apply pw_below_drewN | apply below_drew1) | exact HB.out)⟩⟩
  case round =>
   clear H'
   try clear c1
   try clear p2
   try clear hx2
   try clear c3
   try clear c3b0
   try clear c3b1
   try clear hx231_0
   try clear hx231_1
   try clear hx231_2
   obtain ⟨x6_1, x7_1, x20_1, rfl, rfl, rfl, HA, HK1, HB⟩ := hrel
   cases gk with
   | zero => exact absurd HA.out (by simp [branch_town_is.l0])
   | succ k1 =>
    have H := HA.out
    clear HA
    simp only [branch_town_is.l0] at H
    by_cases c4 : x20_1 < (l1.length : Int)
    ·rw [if_pos c4] at H
     have c4b0 : decide (x20_1 < (l1.length : Int)) = true := decide_eq_true c4
     clear c4
     by_cases c5 : 0 ≤ x20_1
     ·rw [if_pos c5] at H
      have c5b0 : decide (0 ≤ x20_1) = true := decide_eq_true c5
      clear c5
      by_cases c6 : x20_1 < (l1.length : Int)
      ·rw [if_pos c6] at H
       have c6b0 : decide (x20_1 < (l1.length : Int)) = true := decide_eq_true c6
       clear c6
       have HC7 := Aside0.mk H
       clear H
       have p232 : 0 ≤ (x20_1 : Int) := of_decide_eq_true (by first | (with_reducible assumption) | assumption)
       have q232 : x20_1 < (l1.length : Int) := of_decide_eq_true (by first | (with_reducible assumption) | assumption)
       obtain ⟨ad232, e232, hx232_0⟩ := Kd.at_int HR1.out x20_1 p232 q232
       cases e232
       replace hx232_0 := (HB.out.cell (World.block_lt_of_cell? w _ hx232_0)).trans hx232_0
       replace p232 := eq_true p232
       replace q232 := eq_true q232
       go_upto_region 7 with (fail)
       go_cut [62] (fun v62 wc => ∃ (kq : Nat) (x62_6 : Bool), v62 = .bool x62_6 ∧ Aside0 (branch_town_is.j1 kq l1 x6_1 x7_1 (rd l1 x20_1) l1 (l1.length : Int) x20_1 x62_6 a0_0 l0_1 = some (r1, r2)) ∧ Aside0 (kq ≤ k1) ∧ Aside0 (Below w.heap.size w wc))
       case first =>
        have H := HC7.out
        clear HC7
        by_cases c8 : (rd l1 x20_1) < 0
        ·rw [if_pos c8] at H
         have c8b0 : decide ((rd l1 x20_1) < 0) = true := decide_eq_true c8
         clear c8
         (first | rw [c8b0] | (simp only [i64_w, i32_w]; rw [c8b0]) | skip)
         have H' := Aside0.mk H
         clear H
         go_wp2
         go_meet
         case rel => exact ⟨_, (true), (by first | rfl | (simp; done) | (simp [*]; done)), H', ⟨by have := HK1.out; first | omega | exact Nat.le_refl _⟩, ⟨by repeat (first | (with_reducible first | exact HB.out | apply below_alloc | apply pw_below_drewN | apply below_drew1) | exact HB.out)⟩⟩
        ·rw [if_neg c8] at H
         have c8b0 : decide ((rd l1 x20_1) < 0) = false := decide_eq_false c8
         clear c8
         (first | rw [c8b0] | (simp only [i64_w, i32_w]; rw [c8b0]) | skip)
         by_cases c9 : (rd l1 x20_1) ≥ (l0_1.length : Int)
         ·rw [if_pos c9] at H
          have c9b0 : decide ((l0_1.length : Int) ≤ (rd l1 x20_1)) = true := decide_eq_true c9
          clear c9
          have H' := Aside0.mk H
          clear H
          have hx233_0 := blk_cell HP0.out 0
          replace hx233_0 := hx233_0.trans rfl
          replace hx233_0 := (HB.out.cell (World.block_lt_of_cell? w _ hx233_0)).trans hx233_0
          have hx233_1 := blk_cell HP0.out 1
          replace hx233_1 := hx233_1.trans rfl
          replace hx233_1 := (HB.out.cell (World.block_lt_of_cell? w _ hx233_1)).trans hx233_1
          have hx233_2 := blk_cell HP0.out 2
          replace hx233_2 := hx233_2.trans rfl
          replace hx233_2 := (HB.out.cell (World.block_lt_of_cell? w _ hx233_2)).trans hx233_2
          go_wp2
          go_meet
          case rel => exact ⟨_, (true), (by first | rfl | (simp; done) | (simp [*]; done)), H', ⟨by have := HK1.out; first | omega | exact Nat.le_refl _⟩, ⟨by repeat (first | (with_reducible first | exact HB.out | apply below_alloc | apply pw_below_drewN | apply below_drew1) | exact HB.out)⟩⟩
         ·rw [if_neg c9] at H
          have c9b0 : decide ((l0_1.length : Int) ≤ (rd l1 x20_1)) = false := decide_eq_false c9
          clear c9
          by_cases c10 : x20_1 > 0
          ·rw [if_pos c10] at H
           have c10b0 : decide (0 < x20_1) = true := decide_eq_true c10
           clear c10
           obtain ⟨ji11, hji11⟩ : ∃ j_ : Int, (wrap64 (x20_1 - 1)) = j_ := ⟨_, rfl⟩
           replace H : (if 0 ≤ (ji11) then (if (ji11) < (l1.length : Int) then (if (rd l1 x20_1) ≤ (rd l1 (ji11)) then (branch_town_is.j1 k1 l1 x6_1 x7_1 (rd l1 x20_1) l1 (l1.length : Int) x20_1 true a0_0 l0_1) else (if 0 ≤ (rd l1 x20_1) then (if (rd l1 x20_1) < (l0_1.length : Int) then (if 0 ≤ ((rd_T30 l0_1 (rd l1 x20_1)).f1) then (branch_town_is.j1 k1 l1 x6_1 x7_1 (rd l1 x20_1) l1 (l1.length : Int) x20_1 ((Go.bits .and .i64 (shr .i64 x7_1 ((rd_T30 l0_1 (rd l1 x20_1)).f1)) 1) == 1) a0_0 l0_1) else (none)) else (none)) else (none))) else (none)) else (none)) = some (r1, r2) := by first | (rw [hji11] at H; exact H) | (simp only [hji11] at H ⊢; exact H)
           have hji11w : (IntKind.i64.wrap (x20_1 - 1)) = ji11 := (i64_w _).trans hji11
           by_cases c12 : 0 ≤ (ji11)
           ·rw [if_pos c12] at H
            have c12b0 : decide (0 ≤ (ji11)) = true := decide_eq_true c12
            clear c12
            by_cases c13 : (ji11) < (l1.length : Int)
            ·rw [if_pos c13] at H
             have c13b0 : decide ((ji11) < (l1.length : Int)) = true := decide_eq_true c13
             clear c13
             by_cases c14 : (rd l1 x20_1) ≤ (rd l1 (ji11))
             ·rw [if_pos c14] at H
              have c14b0 : decide ((rd l1 x20_1) ≤ (rd l1 (ji11))) = true := decide_eq_true c14
              clear c14
              have H' := Aside0.mk H
              clear H
              have hx233_0 := blk_cell HP0.out 0
              replace hx233_0 := hx233_0.trans rfl
              replace hx233_0 := (HB.out.cell (World.block_lt_of_cell? w _ hx233_0)).trans hx233_0
              have hx233_1 := blk_cell HP0.out 1
              replace hx233_1 := hx233_1.trans rfl
              replace hx233_1 := (HB.out.cell (World.block_lt_of_cell? w _ hx233_1)).trans hx233_1
              have hx233_2 := blk_cell HP0.out 2
              replace hx233_2 := hx233_2.trans rfl
              replace hx233_2 := (HB.out.cell (World.block_lt_of_cell? w _ hx233_2)).trans hx233_2
              have p234 : 0 ≤ ((ji11) : Int) := of_decide_eq_true (by first | (with_reducible assumption) | assumption)
              have q234 : (ji11) < (l1.length : Int) := of_decide_eq_true (by first | (with_reducible assumption) | assumption)
              obtain ⟨ad234, e234, hx234_0⟩ := Kd.at_int HR1.out (ji11) p234 q234
              obtain rfl : ad232 = ad234 := (by injection e234)
              replace hx234_0 := (HB.out.cell (World.block_lt_of_cell? w _ hx234_0)).trans hx234_0
              replace p234 := eq_true p234
              replace q234 := eq_true q234
              go_wp2
              go_meet
              case rel => exact ⟨_, (true), (by first | rfl | (simp; done) | (simp [*]; done)), H', ⟨by have := HK1.out; first | omega | exact Nat.le_refl _⟩, ⟨by repeat (first | (with_reducible first | exact HB.out | apply below_alloc | apply pw_below_drewN | apply below_drew1) | exact HB.out)⟩⟩
             ·rw [if_neg c14] at H
              have c14b0 : decide ((rd l1 x20_1) ≤ (rd l1 (ji11))) = false := decide_eq_false c14
              clear c14
              by_cases c15 : 0 ≤ (rd l1 x20_1)
              ·rw [if_pos c15] at H
               have c15b0 : decide (0 ≤ (rd l1 x20_1)) = true := decide_eq_true c15
               clear c15
               by_cases c16 : (rd l1 x20_1) < (l0_1.length : Int)
               ·rw [if_pos c16] at H
                have c16b0 : decide ((rd l1 x20_1) < (l0_1.length : Int)) = true := decide_eq_true c16
                clear c16
                by_cases c17 : 0 ≤ ((rd_T30 l0_1 (rd l1 x20_1)).f1)
                ·rw [if_pos c17] at H
                 have c17b0 := eq_true c17
                 have c17b1 : decide (0 ≤ ((rd_T30 l0_1 (rd l1 x20_1)).f1)) = true := decide_eq_true c17
                 clear c17
                 obtain ⟨ji18, hji18⟩ : ∃ j_ : Int, (shr .i64 x7_1 ((rd_T30 l0_1 (rd l1 x20_1)).f1)) = j_ := ⟨_, rfl⟩
                 replace H : (branch_town_is.j1 k1 l1 x6_1 x7_1 (rd l1 x20_1) l1 (l1.length : Int) x20_1 ((Go.bits .and .i64 (ji18) 1) == 1) a0_0 l0_1) = some (r1, r2) := by first | (rw [hji18] at H; exact H) | (simp only [hji18] at H ⊢; exact H)
                 have hji18_ : (x7_1 / 2 ^ min ((rd_T30 l0_1 (rd l1 x20_1)).f1).toNat 64) = ji18 := hji18
                 have hji18z : ((rd_T30 l0_1 (rd l1 x20_1)).f1) ≤ 64 → (x7_1 / 2 ^ ((rd_T30 l0_1 (rd l1 x20_1)).f1).toNat) = ji18 := shr_small hji18
                 have H' := Aside0.mk H
                 clear H
                 have hx233_0 := blk_cell HP0.out 0
                 replace hx233_0 := hx233_0.trans rfl
                 replace hx233_0 := (HB.out.cell (World.block_lt_of_cell? w _ hx233_0)).trans hx233_0
                 have hx233_1 := blk_cell HP0.out 1
                 replace hx233_1 := hx233_1.trans rfl
                 replace hx233_1 := (HB.out.cell (World.block_lt_of_cell? w _ hx233_1)).trans hx233_1
                 have hx233_2 := blk_cell HP0.out 2
                 replace hx233_2 := hx233_2.trans rfl
                 replace hx233_2 := (HB.out.cell (World.block_lt_of_cell? w _ hx233_2)).trans hx233_2
                 have p234 : 0 ≤ ((ji11) : Int) := of_decide_eq_true (by first | (with_reducible assumption) | assumption)
                 have q234 : (ji11) < (l1.length : Int) := of_decide_eq_true (by first | (with_reducible assumption) | assumption)
                 obtain ⟨ad234, e234, hx234_0⟩ := Kd.at_int HR1.out (ji11) p234 q234
                 obtain rfl : ad232 = ad234 := (by injection e234)
                 replace hx234_0 := (HB.out.cell (World.block_lt_of_cell? w _ hx234_0)).trans hx234_0
                 replace p234 := eq_true p234
                 replace q234 := eq_true q234
                 have hx235_0 := blk_cell HP0.out 0
                 replace hx235_0 := hx235_0.trans rfl
                 replace hx235_0 := (HB.out.cell (World.block_lt_of_cell? w _ hx235_0)).trans hx235_0
                 have hx235_1 := blk_cell HP0.out 1
                 replace hx235_1 := hx235_1.trans rfl
                 replace hx235_1 := (HB.out.cell (World.block_lt_of_cell? w _ hx235_1)).trans hx235_1
                 have hx235_2 := blk_cell HP0.out 2
                 replace hx235_2 := hx235_2.trans rfl
                 replace hx235_2 := (HB.out.cell (World.block_lt_of_cell? w _ hx235_2)).trans hx235_2
                 have p236 : 0 ≤ ((rd l1 x20_1) : Int) := of_decide_eq_true (by first | (with_reducible assumption) | assumption)
                 have q236 : (rd l1 x20_1) < (l0_1.length : Int) := of_decide_eq_true (by first | (with_reducible assumption) | assumption)
                 obtain ⟨ad236, e236, hx236_0, hx236_1, hx236_2⟩ := at_T30 HR0_1.out (rd l1 x20_1) p236 q236
                 cases e236
                 replace hx236_0 := (HB.out.cell (World.block_lt_of_cell? w _ hx236_0)).trans hx236_0
                 replace hx236_1 := (HB.out.cell (World.block_lt_of_cell? w _ hx236_1)).trans hx236_1
                 replace hx236_2 := (HB.out.cell (World.block_lt_of_cell? w _ hx236_2)).trans hx236_2
                 replace p236 := eq_true p236
                 replace q236 := eq_true q236
                 go_wp2
                 go_meet
                 case rel => exact ⟨_, (((Go.bits .and .i64 (ji18) 1) == 1)), (by first | rfl | (simp; done) | (simp only [← hji18] <;> (first | rfl | simp)) | (simp [*]; done)), H', ⟨by have := HK1.out; first | omega | exact Nat.le_refl _⟩, ⟨by repeat (first | (with_reducible first | exact HB.out | apply below_alloc | apply pw_below_drewN | apply below_drew1) | exact HB.out)⟩⟩
                ·rw [if_neg c17] at H
                 exact absurd H (by simp)
               ·rw [if_neg c16] at H
                exact absurd H (by simp)
              ·rw [if_neg c15] at H
               exact absurd H (by simp)
            ·rw [if_neg c13] at H
             exact absurd H (by simp)
           ·rw [if_neg c12] at H
            exact absurd H (by simp)
          ·rw [if_neg c10] at H
           have c10b0 : decide (0 < x20_1) = false := decide_eq_false c10
           clear c10
           by_cases c19 : 0 ≤ (rd l1 x20_1)
           ·rw [if_pos c19] at H
            have c19b0 : decide (0 ≤ (rd l1 x20_1)) = true := decide_eq_true c19
            clear c19
            by_cases c20 : (rd l1 x20_1) < (l0_1.length : Int)
            ·rw [if_pos c20] at H
             have c20b0 : decide ((rd l1 x20_1) < (l0_1.length : Int)) = true := decide_eq_true c20
             clear c20
             by_cases c21 : 0 ≤ ((rd_T30 l0_1 (rd l1 x20_1)).f1)
             ·rw [if_pos c21] at H
              have c21b0 := eq_true c21
              have c21b1 : decide (0 ≤ ((rd_T30 l0_1 (rd l1 x20_1)).f1)) = true := decide_eq_true c21
              clear c21
              obtain ⟨ji22, hji22⟩ : ∃ j_ : Int, (shr .i64 x7_1 ((rd_T30 l0_1 (rd l1 x20_1)).f1)) = j_ := ⟨_, rfl⟩
              replace H : (branch_town_is.j1 k1 l1 x6_1 x7_1 (rd l1 x20_1) l1 (l1.length : Int) x20_1 ((Go.bits .and .i64 (ji22) 1) == 1) a0_0 l0_1) = some (r1, r2) := by first | (rw [hji22] at H; exact H) | (simp only [hji22] at H ⊢; exact H)
              have hji22_ : (x7_1 / 2 ^ min ((rd_T30 l0_1 (rd l1 x20_1)).f1).toNat 64) = ji22 := hji22
              have hji22z : ((rd_T30 l0_1 (rd l1 x20_1)).f1) ≤ 64 → (x7_1 / 2 ^ ((rd_T30 l0_1 (rd l1 x20_1)).f1).toNat) = ji22 := shr_small hji22
              have H' := Aside0.mk H
              clear H
              have hx233_0 := blk_cell HP0.out 0
              replace hx233_0 := hx233_0.trans rfl
              replace hx233_0 := (HB.out.cell (World.block_lt_of_cell? w _ hx233_0)).trans hx233_0
              have hx233_1 := blk_cell HP0.out 1
              replace hx233_1 := hx233_1.trans rfl
              replace hx233_1 := (HB.out.cell (World.block_lt_of_cell? w _ hx233_1)).trans hx233_1
              have hx233_2 := blk_cell HP0.out 2
              replace hx233_2 := hx233_2.trans rfl
              replace hx233_2 := (HB.out.cell (World.block_lt_of_cell? w _ hx233_2)).trans hx233_2
              have hx237_0 := blk_cell HP0.out 0
              replace hx237_0 := hx237_0.trans rfl
              replace hx237_0 := (HB.out.cell (World.block_lt_of_cell? w _ hx237_0)).trans hx237_0
              have hx237_1 := blk_cell HP0.out 1
              replace hx237_1 := hx237_1.trans rfl
              replace hx237_1 := (HB.out.cell (World.block_lt_of_cell? w _ hx237_1)).trans hx237_1
              have hx237_2 := blk_cell HP0.out 2
              replace hx237_2 := hx237_2.trans rfl
              replace hx237_2 := (HB.out.cell (World.block_lt_of_cell? w _ hx237_2)).trans hx237_2
              have p238 : 0 ≤ ((rd l1 x20_1) : Int) := of_decide_eq_true (by first | (with_reducible assumption) | assumption)
              have q238 : (rd l1 x20_1) < (l0_1.length : Int) := of_decide_eq_true (by first | (with_reducible assumption) | assumption)
              obtain ⟨ad238, e238, hx238_0, hx238_1, hx238_2⟩ := at_T30 HR0_1.out (rd l1 x20_1) p238 q238
              cases e238
              replace hx238_0 := (HB.out.cell (World.block_lt_of_cell? w _ hx238_0)).trans hx238_0
              replace hx238_1 := (HB.out.cell (World.block_lt_of_cell? w _ hx238_1)).trans hx238_1
              replace hx238_2 := (HB.out.cell (World.block_lt_of_cell? w _ hx238_2)).trans hx238_2
              replace p238 := eq_true p238
              replace q238 := eq_true q238
              go_wp2
              go_meet
              case rel => exact ⟨_, (((Go.bits .and .i64 (ji22) 1) == 1)), (by first | rfl | (simp; done) | (simp only [← hji22] <;> (first | rfl | simp)) | (simp [*]; done)), H', ⟨by have := HK1.out; first | omega | exact Nat.le_refl _⟩, ⟨by repeat (first | (with_reducible first | exact HB.out | apply below_alloc | apply pw_below_drewN | apply below_drew1) | exact HB.out)⟩⟩
             ·rw [if_neg c21] at H
              exact absurd H (by simp)
            ·rw [if_neg c20] at H
             exact absurd H (by simp)
           ·rw [if_neg c19] at H
            exact absurd H (by simp)
       case rest =>
        clear HC7
        try clear c1
        try clear c2
        try clear p2
        try clear q2
        try clear hx2
        try clear c3
        try clear c3b0
        try clear c3b1
        try clear c4
        try clear c4b0
        try clear c5
        try clear c5b0
        try clear c6
        try clear c6b0
        try clear p6
        try clear c8
        try clear c8b0
        try clear c9
        try clear c9b0
        try clear c10
        try clear c10b0
        try clear c12
        try clear c12b0
        try clear c13
        try clear c13b0
        try clear c14
        try clear c14b0
        try clear c15
        try clear c15b0
        try clear c16
        try clear c16b0
        try clear c17
        try clear c17b0
        try clear c17b1
        try clear c19
        try clear c19b0
        try clear c20
        try clear c20b0
        try clear c21
        try clear c21b0
        try clear c21b1
        try clear hx231_0
        try clear hx231_1
        try clear hx231_2
        try clear hx232_0
        try clear hx233_0
        try clear hx233_1
        try clear hx233_2
        try clear hx234_0
        try clear hx235_0
        try clear hx235_1
        try clear hx235_2
        try clear hx236_0
        try clear hx236_1
        try clear hx236_2
        try clear hx237_0
        try clear hx237_1
        try clear hx237_2
        try clear hx238_0
        try clear hx238_1
        try clear hx238_2
        try clear p2
        try clear p232
        try clear p234
        try clear p236
        try clear p238
        try clear q232
        try clear q234
        try clear q236
        try clear q238
        obtain ⟨kq, x62_6, rfl, HA, HJ6, HB⟩ := hcut
        cases kq with
        | zero => exact absurd HA.out (by simp [branch_town_is.j1])
        | succ kj6 =>
         have H := HA.out
         clear HA
         simp only [branch_town_is.j1] at H
         by_cases c23 : x62_6 = true
         ·subst c23
          have H1 : (some (0, false)) = some (r1, r2) := by rw [if_pos rfl] at H; exact H
          clear H
          have H := H1
          clear H1
          simp only [Option.some.injEq, Prod.mk.injEq] at H
          obtain ⟨rfl, rfl⟩ := H
          go_wp2
          go_ret2
          exact ⟨by first | rfl | (simp [errW_none, errW_some] <;> rfl) | (simp [*, errW_none, errW_some] <;> rfl), by repeat (first | (with_reducible first | exact HB.out | apply below_alloc | apply pw_below_drewN | apply below_drew1) | exact HB.out)⟩
         ·replace c23 := Bool.eq_false_iff.mpr c23
          subst c23
          have H1 : (if 0 ≤ (rd l1 x20_1) then (if (rd l1 x20_1) < (l0_1.length : Int) then (if 0 ≤ ((rd_T30 l0_1 (rd l1 x20_1)).f1) then (branch_town_is.l0 kj6 l1 (wrap64 (x6_1 + ((rd_T30 l0_1 (rd l1 x20_1)).f2))) (Go.bits .or .i64 x7_1 (shl .i64 1 ((rd_T30 l0_1 (rd l1 x20_1)).f1))) l1 (l1.length : Int) (wrap64 (x20_1 + 1)) a0_0 l0_1) else (none)) else (none)) else (none)) = some (r1, r2) := by rw [if_neg (show ¬ (false = true) by decide)] at H; exact H
          clear H
          have H := H1
          clear H1
          by_cases c24 : 0 ≤ (rd l1 x20_1)
          ·rw [if_pos c24] at H
           have c24b0 : decide (0 ≤ (rd l1 x20_1)) = true := decide_eq_true c24
           clear c24
           by_cases c25 : (rd l1 x20_1) < (l0_1.length : Int)
           ·rw [if_pos c25] at H
            have c25b0 : decide ((rd l1 x20_1) < (l0_1.length : Int)) = true := decide_eq_true c25
            clear c25
            by_cases c26 : 0 ≤ ((rd_T30 l0_1 (rd l1 x20_1)).f1)
            ·rw [if_pos c26] at H
             have c26b0 := eq_true c26
             have c26b1 : decide (0 ≤ ((rd_T30 l0_1 (rd l1 x20_1)).f1)) = true := decide_eq_true c26
             clear c26
             obtain ⟨ji27, hji27⟩ : ∃ j_ : Int, (shl .i64 1 ((rd_T30 l0_1 (rd l1 x20_1)).f1)) = j_ := ⟨_, rfl⟩
             replace H : (branch_town_is.l0 kj6 l1 (wrap64 (x6_1 + ((rd_T30 l0_1 (rd l1 x20_1)).f2))) (Go.bits .or .i64 x7_1 (ji27)) l1 (l1.length : Int) (wrap64 (x20_1 + 1)) a0_0 l0_1) = some (r1, r2) := by first | (rw [hji27] at H; exact H) | (simp only [hji27] at H ⊢; exact H)
             have hji27_ : (IntKind.i64.wrap (1 * 2 ^ min ((rd_T30 l0_1 (rd l1 x20_1)).f1).toNat 64)) = ji27 := hji27
             have hji27z : ((rd_T30 l0_1 (rd l1 x20_1)).f1) ≤ 64 → (IntKind.i64.wrap (1 * 2 ^ ((rd_T30 l0_1 (rd l1 x20_1)).f1).toNat)) = ji27 := shl_small hji27
             have hji27u : (IntKind.i64.wrap (2 ^ min ((rd_T30 l0_1 (rd l1 x20_1)).f1).toNat 64)) = ji27 := by have h_ := hji27_; rw [Int.one_mul] at h_; exact h_
             have hji27v : ((rd_T30 l0_1 (rd l1 x20_1)).f1) ≤ 64 → (IntKind.i64.wrap (2 ^ ((rd_T30 l0_1 (rd l1 x20_1)).f1).toNat)) = ji27 := fun hle_ => by have h_ := hji27z hle_; rw [Int.one_mul] at h_; exact h_
             have hji27y : (wrap64 (1 * 2 ^ min ((rd_T30 l0_1 (rd l1 x20_1)).f1).toNat 64)) = ji27 := (i64_w _).symm.trans hji27_
             have hji27x : ((rd_T30 l0_1 (rd l1 x20_1)).f1) ≤ 64 → (wrap64 (1 * 2 ^ ((rd_T30 l0_1 (rd l1 x20_1)).f1).toNat)) = ji27 := fun h_ => (i64_w _).symm.trans (hji27z h_)
             have H' := Aside0.mk H
             clear H
             have hx239_0 := blk_cell HP0.out 0
             replace hx239_0 := hx239_0.trans rfl
             replace hx239_0 := (HB.out.cell (World.block_lt_of_cell? w _ hx239_0)).trans hx239_0
             have hx239_1 := blk_cell HP0.out 1
             replace hx239_1 := hx239_1.trans rfl
             replace hx239_1 := (HB.out.cell (World.block_lt_of_cell? w _ hx239_1)).trans hx239_1
             have hx239_2 := blk_cell HP0.out 2
             replace hx239_2 := hx239_2.trans rfl
             replace hx239_2 := (HB.out.cell (World.block_lt_of_cell? w _ hx239_2)).trans hx239_2
             have p240 : 0 ≤ ((rd l1 x20_1) : Int) := of_decide_eq_true (by first | (with_reducible assumption) | assumption)
             have q240 : (rd l1 x20_1) < (l0_1.length : Int) := of_decide_eq_true (by first | (with_reducible assumption) | assumption)
             obtain ⟨ad240, e240, hx240_0, hx240_1, hx240_2⟩ := at_T30 HR0_1.out (rd l1 x20_1) p240 q240
             cases e240
             replace hx240_0 := (HB.out.cell (World.block_lt_of_cell? w _ hx240_0)).trans hx240_0
             replace hx240_1 := (HB.out.cell (World.block_lt_of_cell? w _ hx240_1)).trans hx240_1
             replace hx240_2 := (HB.out.cell (World.block_lt_of_cell? w _ hx240_2)).trans hx240_2
             replace p240 := eq_true p240
             replace q240 := eq_true q240
             have hx241_0 := blk_cell HP0.out 0
             replace hx241_0 := hx241_0.trans rfl
             replace hx241_0 := (HB.out.cell (World.block_lt_of_cell? w _ hx241_0)).trans hx241_0
             have hx241_1 := blk_cell HP0.out 1
             replace hx241_1 := hx241_1.trans rfl
             replace hx241_1 := (HB.out.cell (World.block_lt_of_cell? w _ hx241_1)).trans hx241_1
             have hx241_2 := blk_cell HP0.out 2
             replace hx241_2 := hx241_2.trans rfl
             replace hx241_2 := (HB.out.cell (World.block_lt_of_cell? w _ hx241_2)).trans hx241_2
             have p242 : 0 ≤ ((rd l1 x20_1) : Int) := of_decide_eq_true (by first | (with_reducible assumption) | assumption)
             have q242 : (rd l1 x20_1) < (l0_1.length : Int) := of_decide_eq_true (by first | (with_reducible assumption) | assumption)
             obtain ⟨ad242, e242, hx242_0, hx242_1, hx242_2⟩ := at_T30 HR0_1.out (rd l1 x20_1) p242 q242
             obtain rfl : ad240 = ad242 := (by injection e242)
             replace hx242_0 := (HB.out.cell (World.block_lt_of_cell? w _ hx242_0)).trans hx242_0
             replace hx242_1 := (HB.out.cell (World.block_lt_of_cell? w _ hx242_1)).trans hx242_1
             replace hx242_2 := (HB.out.cell (World.block_lt_of_cell? w _ hx242_2)).trans hx242_2
             replace p242 := eq_true p242
             replace q242 := eq_true q242
             go_wp2
             go_roundg kj6
             case measure => have := HK1.out; have := HJ6.out; omega
             case rel => exact ⟨(wrap64 (x6_1 + ((rd_T30 l0_1 (rd l1 x20_1)).f2))), (Go.bits .or .i64 x7_1 (ji27)), (wrap64 (x20_1 + 1)), (by first | rfl | (simp; done) | (simp [*]; done)), (by first | rfl | (simp; done) | (simp only [← hji27] <;> (first | rfl | simp)) | (simp [*]; done)), (by first | rfl | (simp; done) | (simp [*]; done)), H', ⟨by have := HK1.out; have := HJ6.out; omega⟩, ⟨by repeat (first | (with_reducible first | exact HB.out | apply below_alloc | apply pw_below_drewN | apply below_drew1) | exact HB.out)⟩⟩
            ·rw [if_neg c26] at H
             exact absurd H (by simp)
           ·rw [if_neg c25] at H
            exact absurd H (by simp)
          ·rw [if_neg c24] at H
           exact absurd H (by simp)
      ·rw [if_neg c6] at H
       exact absurd H (by simp)
     ·rw [if_neg c5] at H
      exact absurd H (by simp)
    ·rw [if_neg c4] at H
     have c4b0 : decide (x20_1 < (l1.length : Int)) = false := decide_eq_false c4
     clear c4
     replace H := Option.bind_eq_some_iff.mp H
     obtain ⟨t243, A280, H⟩ := H
     replace H : ((branch_town_everybody.f a0_0 l0_1).bind fun t244 => (if t243 = t244 then (some (x6_1, true)) else (some (0, false)))) = some (r1, r2) := H
     have A28 := Aside0.mk A280
     clear A280
     replace H := Option.bind_eq_some_iff.mp H
     obtain ⟨t244, A290, H⟩ := H
     replace H : (if t243 = t244 then (some (x6_1, true)) else (some (0, false))) = some (r1, r2) := H
     have A29 := Aside0.mk A290
     clear A290
     by_cases c30 : t243 = t244
     ·rw [if_pos c30] at H
      have c30b0 : (t243 == t244) = true := beq_iff_eq.mpr c30
      have c30b1 : (t243 != t244) = false := bne_eq_false_iff_eq.mpr c30
      clear c30
      simp only [Option.some.injEq, Prod.mk.injEq] at H
      obtain ⟨rfl, rfl⟩ := H
      go_wp2_with (first | ((with_reducible refine gate_callee (f := 54) rfl ?_); refine goesL_ (some 87) rfl rfl Try.func54 (by kernel_rfl) rfl #[.pointer (some ⟨g0, 0, none⟩), .slice A1 l1.length c1] rfl (by (try simp only [List.map_toArray, List.map_cons, List.map_nil]); first | done | rfl | (simp only [List.length_drop, List.length_take]; rfl)) ?_; (with_reducible refine (branch_town_reach.calls k1 g0 a0_0 A0_1 c0_1 l0_1 a0_2 _ _ l1 t243 _ ?side1 ?side2 ?side3 ?side4 ?side5 A28.out).mono ?_); (case side1 => exact ((show Below _ _ _ from by repeat (first | (with_reducible first | exact HB.out | apply below_alloc | apply pw_below_drewN | apply below_drew1) | exact HB.out)).block _ (blk_lt HP0.out)).trans HP0.out); (case side2 => repeat (first | exact (Kd.C_below HR0_1.out HB.out) | (with_reducible refine Kd.C_alloc ?_ _) | (with_reducible refine Kd.C_drewN ?_ _) | (with_reducible refine Kd.C_drew ?_))); (case side3 => exact HC0_1.out); (case side4 => repeat (first | exact (Kd.C_below HR1.out HB.out) | (with_reducible refine Kd.C_alloc ?_ _) | (with_reducible refine Kd.C_drewN ?_ _) | (with_reducible refine Kd.C_drew ?_))); (case side5 => exact HC1.out); rintro e w31 ⟨rfl, hb⟩; refine ⟨_, rfl, ?_⟩; have n0_ := Aside0.mk (below_step (by repeat (first | (with_reducible first | exact HB.out | apply below_alloc | apply pw_below_drewN | apply below_drew1) | exact HB.out)) hb); clear HB; have HB := n0_; clear n0_; (try clear hb); (try clear hb2); (try clear hk); (try clear hi)) | ((with_reducible refine gate_callee (f := 74) rfl ?_); refine goesL_ (some 89) rfl rfl Try.func74 (by kernel_rfl) rfl #[.pointer (some ⟨g0, 0, none⟩)] rfl (by (try simp only [List.map_toArray, List.map_cons, List.map_nil]); first | done | rfl | (simp only [List.length_drop, List.length_take]; rfl)) ?_; (with_reducible refine (branch_town_everybody.calls g0 a0_0 A0_1 c0_1 l0_1 a0_2 t244 _ ?side1 ?side2 ?side3 A29.out).mono ?_); (case side1 => exact ((show Below _ _ _ from by repeat (first | (with_reducible first | exact HB.out | apply below_alloc | apply pw_below_drewN | apply below_drew1) | exact HB.out)).block _ (blk_lt HP0.out)).trans HP0.out); (case side2 => repeat (first | exact (Kd.C_below HR0_1.out HB.out) | (with_reducible refine Kd.C_alloc ?_ _) | (with_reducible refine Kd.C_drewN ?_ _) | (with_reducible refine Kd.C_drew ?_))); (case side3 => exact HC0_1.out); rintro e w' ⟨rfl, ⟨nd, rfl⟩⟩; refine ⟨_, rfl, ?_⟩))
      go_ret2
      exact ⟨by first | rfl | (simp [errW_none, errW_some] <;> rfl) | (simp [*, errW_none, errW_some] <;> rfl), by repeat (first | (with_reducible first | exact HB.out | apply below_alloc | apply pw_below_drewN | apply below_drew1) | exact HB.out)⟩
     ·rw [if_neg c30] at H
      have c30b0 : (t243 == t244) = false := beq_eq_false_iff_ne.mpr c30
      have c30b1 : (t243 != t244) = true := bne_iff_ne.mpr c30
      simp only [Option.some.injEq, Prod.mk.injEq] at H
      obtain ⟨rfl, rfl⟩ := H
      go_wp2_with (first | ((with_reducible refine gate_callee (f := 54) rfl ?_); refine goesL_ (some 87) rfl rfl Try.func54 (by kernel_rfl) rfl #[.pointer (some ⟨g0, 0, none⟩), .slice A1 l1.length c1] rfl (by (try simp only [List.map_toArray, List.map_cons, List.map_nil]); first | done | rfl | (simp only [List.length_drop, List.length_take]; rfl)) ?_; (with_reducible refine (branch_town_reach.calls k1 g0 a0_0 A0_1 c0_1 l0_1 a0_2 _ _ l1 t243 _ ?side1 ?side2 ?side3 ?side4 ?side5 A28.out).mono ?_); (case side1 => exact ((show Below _ _ _ from by repeat (first | (with_reducible first | exact HB.out | apply below_alloc | apply pw_below_drewN | apply below_drew1) | exact HB.out)).block _ (blk_lt HP0.out)).trans HP0.out); (case side2 => repeat (first | exact (Kd.C_below HR0_1.out HB.out) | (with_reducible refine Kd.C_alloc ?_ _) | (with_reducible refine Kd.C_drewN ?_ _) | (with_reducible refine Kd.C_drew ?_))); (case side3 => exact HC0_1.out); (case side4 => repeat (first | exact (Kd.C_below HR1.out HB.out) | (with_reducible refine Kd.C_alloc ?_ _) | (with_reducible refine Kd.C_drewN ?_ _) | (with_reducible refine Kd.C_drew ?_))); (case side5 => exact HC1.out); rintro e w32 ⟨rfl, hb⟩; refine ⟨_, rfl, ?_⟩; have n0_ := Aside0.mk (below_step (by repeat (first | (with_reducible first | exact HB.out | apply below_alloc | apply pw_below_drewN | apply below_drew1) | exact HB.out)) hb); clear HB; have HB := n0_; clear n0_; (try clear hb); (try clear hb2); (try clear hk); (try clear hi)) | ((with_reducible refine gate_callee (f := 74) rfl ?_); refine goesL_ (some 89) rfl rfl Try.func74 (by kernel_rfl) rfl #[.pointer (some ⟨g0, 0, none⟩)] rfl (by (try simp only [List.map_toArray, List.map_cons, List.map_nil]); first | done | rfl | (simp only [List.length_drop, List.length_take]; rfl)) ?_; (with_reducible refine (branch_town_everybody.calls g0 a0_0 A0_1 c0_1 l0_1 a0_2 t244 _ ?side1 ?side2 ?side3 A29.out).mono ?_); (case side1 => exact ((show Below _ _ _ from by repeat (first | (with_reducible first | exact HB.out | apply below_alloc | apply pw_below_drewN | apply below_drew1) | exact HB.out)).block _ (blk_lt HP0.out)).trans HP0.out); (case side2 => repeat (first | exact (Kd.C_below HR0_1.out HB.out) | (with_reducible refine Kd.C_alloc ?_ _) | (with_reducible refine Kd.C_drewN ?_ _) | (with_reducible refine Kd.C_drew ?_))); (case side3 => exact HC0_1.out); rintro e w' ⟨rfl, ⟨nd, rfl⟩⟩; refine ⟨_, rfl, ?_⟩))
      go_ret2
      exact ⟨by first | rfl | (simp [errW_none, errW_some] <;> rfl) | (simp [*, errW_none, errW_some] <;> rfl), by repeat (first | (with_reducible first | exact HB.out | apply below_alloc | apply pw_below_drewN | apply below_drew1) | exact HB.out)⟩
 ·rw [if_neg c3] at H
  have c3b0 : ((l1.length : Int) == (wrap64 (a0_0 - 1))) = false := beq_eq_false_iff_ne.mpr c3
  have c3b1 : ((l1.length : Int) != (wrap64 (a0_0 - 1))) = true := bne_iff_ne.mpr c3
  simp only [Option.some.injEq, Prod.mk.injEq] at H
  obtain ⟨rfl, rfl⟩ := H
  have hx231_0 := blk_cell HP0.out 0
  replace hx231_0 := hx231_0.trans rfl
  have hx231_1 := blk_cell HP0.out 1
  replace hx231_1 := hx231_1.trans rfl
  have hx231_2 := blk_cell HP0.out 2
  replace hx231_2 := hx231_2.trans rfl
  go_enter Try.func61, Try.ntmps61
  go_wp2
  go_ret2
  exact ⟨by first | rfl | (simp [errW_none, errW_some] <;> rfl) | (simp [*, errW_none, errW_some] <;> rfl), by repeat (first | (with_reducible first | exact HB.out | apply below_alloc | apply pw_below_drewN | apply below_drew1) | exact HB.out)⟩
def branch_town_isSet.f (a0_0 : Int) (l0_1 : List (S30)) (a1 : Int) : Option (Bool) := if a1 > 0 then ((branch_town_everybody.f a0_0 l0_1).bind fun t245 => (if a1 ≤ t245 then (some ((Go.bits .and .i64 a1 1) == 0)) else (some false))) else (some false)
set_option maxHeartbeats 8000000 in
set_option maxRecDepth 100000 in
theorem branch_town_isSet.calls (g0 : Nat) (a0_0 : Int) (A0_1 : Option Addr) (c0_1 : Nat) (l0_1 : List (S30)) (a0_2 : Option Nat) (a1 : Int) (r : Bool) (w : World) (hP0 : w.heap[g0]? = some (.cells #[.int .i64 a0_0, .slice A0_1 l0_1.length c0_1, .map a0_2] 70 (0, 0))) (hr0_1 : Kd.C k30 w A0_1 l0_1.length l0_1) (hc0_1 : l0_1.length ≤ c0_1) (h : branch_town_isSet.f a0_0 l0_1 a1 = some r) :
  Calls Try.prog 58 #[.pointer (some ⟨g0, 0, none⟩), .int .i64 a1] w fun e w' => e = .returned (.bool r) ∧ Drawn0 w w' := by
 have HP0 := Aside0.mk hP0
 clear hP0
 have HR0_1 := Aside0.mk hr0_1
 have HC0_1 := Aside0.mk hc0_1
 clear hr0_1 hc0_1
 have H : (if a1 > 0 then ((branch_town_everybody.f a0_0 l0_1).bind fun t245 => (if a1 ≤ t245 then (some ((Go.bits .and .i64 a1 1) == 0)) else (some false))) else (some false)) = some r := h
 clear h
 by_cases c3 : a1 > 0
 ·rw [if_pos c3] at H
  have c3b0 : decide (0 < a1) = true := decide_eq_true c3
  clear c3
  replace H := Option.bind_eq_some_iff.mp H
  obtain ⟨t245, A40, H⟩ := H
  replace H : (if a1 ≤ t245 then (some ((Go.bits .and .i64 a1 1) == 0)) else (some false)) = some r := H
  have A4 := Aside0.mk A40
  clear A40
  by_cases c5 : a1 ≤ t245
  ·rw [if_pos c5] at H
   have c5b0 : decide (a1 ≤ t245) = true := decide_eq_true c5
   clear c5
   obtain rfl := Option.some.inj H
   go_enter Try.func58, Try.ntmps58
   go_wp2_with (first | (go_at_call 74; (with_reducible refine (branch_town_everybody.calls g0 a0_0 A0_1 c0_1 l0_1 a0_2 t245 _ ?side1 ?side2 ?side3 A4.out).mono ?_); (case side1 => exact HP0.out); (case side2 => repeat (first | exact HR0_1.out | (with_reducible refine Kd.C_alloc ?_ _) | (with_reducible refine Kd.C_drewN ?_ _) | (with_reducible refine Kd.C_drew ?_))); (case side3 => exact HC0_1.out); rintro e w' ⟨rfl, ⟨nd, rfl⟩⟩))
   go_ret
   exact ⟨by first | rfl | (simp; done) | (simp [*]; done), by repeat (first | exact Drawn0.refl _ | apply Drawn0.step)⟩
  ·rw [if_neg c5] at H
   have c5b0 : decide (a1 ≤ t245) = false := decide_eq_false c5
   clear c5
   obtain rfl := Option.some.inj H
   go_enter Try.func58, Try.ntmps58
   go_wp2_with (first | (go_at_call 74; (with_reducible refine (branch_town_everybody.calls g0 a0_0 A0_1 c0_1 l0_1 a0_2 t245 _ ?side1 ?side2 ?side3 A4.out).mono ?_); (case side1 => exact HP0.out); (case side2 => repeat (first | exact HR0_1.out | (with_reducible refine Kd.C_alloc ?_ _) | (with_reducible refine Kd.C_drewN ?_ _) | (with_reducible refine Kd.C_drew ?_))); (case side3 => exact HC0_1.out); rintro e w' ⟨rfl, ⟨nd, rfl⟩⟩))
   go_ret
   exact ⟨by first | rfl | (simp; done) | (simp [*]; done), by repeat (first | exact Drawn0.refl _ | apply Drawn0.step)⟩
 ·rw [if_neg c3] at H
  have c3b0 : decide (0 < a1) = false := decide_eq_false c3
  clear c3
  obtain rfl := Option.some.inj H
  go_enter Try.func58, Try.ntmps58
  go_wp2
  go_ret
  exact ⟨by first | rfl | (simp; done) | (simp [*]; done), by repeat (first | exact Drawn0.refl _ | apply Drawn0.step)⟩
end Go.Proofs.Ytpmadffgdfholaa.B
namespace Go.Proofs.Ytpmadffgdfholaa.B
open Go.RowKit Go.MapKept Go.Proofs.YtpmadffgdfholaaW.PrintWords Go.Proofs.YtpmadffgdfholaaW.PrintLast Go.Proofs.YtpmadffgdfholaaW.PrintMore
set_option linter.unusedVariables false
set_option linter.unusedSimpArgs false
attribute [local go_sem ↓] Go.wp_at_zero Go.wp_at_succ
/-- What is left of the costs when a price is taken from the streets of a list; none inside: one of them has less. -/
def takeB : List Int → List Int → Int → Option (Option (List Int))
  | left, [], _ => some (some left)
  | left, i :: E, w => if 0 ≤ i ∧ i < (left.length : Int) then (if rd left i < w then some none else takeB (left.set i.toNat (wrap64 (rd left i - w))) E w) else none
/-- Price by price. -/
def provesL (k : Nat) (n : Int) (l : List S30) : List S41 → List Int → (Int → Bool) → Int → Option (Int × Bool × Int)
  | [], _, _, worth => some (worth, true, 0)
  | p :: ps, left, met, worth => (branch_town_isSet.f n l p.f0).bind fun b => if (!b || decide (p.f1 < 1) || decide (1000 < p.f1) || met p.f0) = true then some (0, false, 0) else
      (branch_town_entering.f k n l p.f0).bind fun E => if E.length < 17592186044416 then (takeB left E p.f1).bind fun o => match o with
        | none => some (0, false, 0)
        | some left' => provesL k n l ps left' (fun j => decide (j = p.f0) || met j) (wrap64 (worth + p.f1)) else none
def branch_Proves.f (k : Nat) (a0 : Int) (l1 : List S30) (l2 : List S41) : Option (Int × Bool × Int) :=
  if l2.length < 17592186044416 then if readB a0 l1 = 0 then (branch_town_costs.f k a0 l1).bind fun left => provesL k a0 l1 l2 left (fun _ => false) 0 else some (0, false, readB a0 l1) else none
theorem provesL_mono (k : Nat) (n : Int) (l : List S30) : ∀ ps left met worth, LeO (provesL k n l ps left met worth) (provesL (k + 1) n l ps left met worth)
  | [], _, _, _ => LeO.refl _
  | p :: ps, left, met, worth => by
    unfold provesL
    refine LeO.bind (LeO.refl _) fun b => ?_
    refine LeO.ite (LeO.refl _) ?_
    refine LeO.bind (branch_town_entering.mono _ _ _ k) fun E => ?_
    refine LeO.ite ?_ (LeO.refl _)
    refine LeO.bind (LeO.refl _) fun o => ?_
    cases o with
    | none => exact LeO.refl _
    | some left' => exact provesL_mono k n l ps left' _ _
theorem branch_Proves.mono : ∀ a0 a1 a2 k, LeO (branch_Proves.f k a0 a1 a2) (branch_Proves.f (k + 1) a0 a1 a2) := by
  intro a0 a1 a2 k
  unfold branch_Proves.f
  refine LeO.ite ?_ (LeO.refl _)
  refine LeO.ite ?_ (LeO.refl _)
  exact LeO.bind (branch_town_costs.mono _ _ k) fun left => provesL_mono k a0 a1 a2 left _ _
theorem drop_rd41 (ps : List S41) (i : Nat) (h : i < ps.length) : ps.drop i = rd_T41 ps (i : Int) :: ps.drop (i + 1) := by
  rw [List.drop_eq_getElem_cons h]
  simp [rd_T41, List.getD, List.getElem?_eq_getElem h]
theorem drop_rdI (ps : List Int) (i : Nat) (h : i < ps.length) : ps.drop i = rd ps (i : Int) :: ps.drop (i + 1) := by
  rw [List.drop_eq_getElem_cons h]
  simp [rd, List.getD, List.getElem?_eq_getElem h]
theorem val_succ2 (i : Nat) (h : i < 17592186044416) : Value.int .i64 (wrap64 ((i : Int) + 1)) = Value.int .i64 ((i + 1 : Nat) : Int) := by rw [show wrap64 ((i : Int) + 1) = ((i + 1 : Nat) : Int) from by unfold wrap64; omega]
theorem update_event {P : Program} {ops : Array Oper} {rest : List Oper} {o : Oper} {a : Act} {Q : Exit → Act → World → Prop} {w : World} {m mt kt et : Nat} {g : Int → Bool} (hM : SetM w m g) (ht : P.underlying mt = some (.map kt et)) (hk : P.underlying kt = some (.int .i64))
    (hg : o.guard = none) (mo xo vo : Operand) (hop : o.op = Op.mapUpdate mt mo xo vo) {i : Int} (hm : a.eval mo = .map (some m)) (hx : a.eval xo = .int .i64 i) (hv : a.eval vo = .bool true)
    (hK : ∀ w2, SetM w2 m (fun j => decide (j = i) || g j) → w.grownBy w2 (some m) → wpList P ops Q rest (a.put o.dst undef) w2) : wpList P ops Q (o :: rest) a w := by
  refine wpList_plain hg fun K' hK' => ?_
  obtain ⟨w2, hrun, r1, r2⟩ := hM.update ht hk i
  unfold Oper.wp
  simp [execOp, hop, hm, hx, hv, hrun, Result.andThen]
  exact hK' _ _ (hK w2 r1 r2)
/-- A row of cells stands where a map is written. -/
theorem Kd.R_map {α : Type} {d : Kd α} {e base m : Nat} {ok : Nat → Prop} {w w2 : World} {v : Value} {xs : List α} {g : Int → Bool} (h : d.R e w base ok v xs) (hM : SetM w m g) (hg : w.grownBy w2 (some m)) : d.R e w2 base ok v xs := by
  refine Kd.R_mono (Kd.R_grown (Kd.R_bound h) hg (fun k hk he => ?_)) (fun _ hk => hk.1)
  obtain ⟨_, _, _, q, _, cells, hc⟩ := hk
  injection he with he
  subst he
  exact hM.ne_cells hc rfl
/-- A row that was made behind a block stands where that block is written. -/
theorem Kd.R_low {α : Type} {d : Kd α} {e base : Nat} {ok : Nat → Prop} {w : World} {v : Value} {xs : List α} (h : d.R e w base ok v xs) {p : Addr} (hp : p.block < base) (u : Value) : d.R e (w.setCell p u) base ok v xs :=
  Kd.R_mono (Kd.R_far (Kd.R_bound h) (fun k hk => by have := hk.2.1; omega) u) (fun _ hk => hk.1)
theorem SetM.set {w : World} {m : Nat} {g : Int → Bool} (h : SetM w m g) {a i : Nat} {cs : Array Value} {t : TypeId} {fr : Nat × Nat} (hb : w.heap[a]? = some (.cells cs t fr)) (u : Value) : SetM (w.setCell ⟨a, i, none⟩ u) m g := h.far (p := ⟨a, i, none⟩) (h.ne_cells hb) u
theorem SetM.self {w : World} {m : Nat} {g : Int → Bool} (_ : SetM w m g) : Below w.heap.size w w := Below.refl _ _
set_option maxHeartbeats 8000000 in
set_option maxRecDepth 100000 in
theorem branch_Proves.calls (k : Nat) (a0 : Int) (A1 : Option Addr) (c1 : Nat) (l1 : List S30) (A2 : Option Addr) (c2 : Nat) (l2 : List S41) (r1 : Int) (r2 : Bool) (r3 : Int) (w : World) (hr1 : Kd.C k30 w A1 l1.length l1) (hc1 : l1.length ≤ c1) (hr2 : Kd.C k41 w A2 l2.length l2) (hc2 : l2.length ≤ c2) (h : branch_Proves.f k a0 l1 l2 = some (r1, r2, r3)) :
  Calls Try.prog 37 #[.int .i64 a0, .slice A1 l1.length c1, .slice A2 l2.length c2] w fun e w' => e = .returned (.tuple #[.int .i64 r1, .bool r2, .int .i64 r3]) ∧ Below w.heap.size w w' := by
 have hu41 := Try.underlying41
 have HR1 := Aside0.mk hr1
 have HC1 := Aside0.mk hc1
 have HR2 := Aside0.mk hr2
 have HC2 := Aside0.mk hc2
 clear hr1 hc1 hr2 hc2
 have HB := Aside0.mk (Below.refl w.heap.size w)
 unfold branch_Proves.f at h
 split at h
 case isFalse => exact absurd h (by simp)
 rename_i hlen
 have HLEN := Aside0.mk hlen
 clear hlen
 obtain ⟨t, ht⟩ : ∃ t, readB a0 l1 = t := ⟨_, rfl⟩
 rw [ht] at h
 have HT0 := Aside0.mk (show branch_read.f a0 l1 = some t by unfold branch_read.f; rw [ht])
 clear ht
 by_cases c3 : t = 0
 case neg =>
  rw [if_neg c3] at h
  have c3b : (t == 0) = false := beq_eq_false_iff_ne.mpr c3
  have c3c : (t != 0) = true := bne_iff_ne.mpr c3
  simp only [Option.some.injEq, Prod.mk.injEq] at h
  obtain ⟨rfl, rfl, rfl⟩ := h
  clear c3
  go_enter Try.func37, Try.ntmps37
  go_wp2_with (first | (go_at_call 44; (refine (branch_read.calls_err a0 A1 c1 l1 t _ HR1.out HC1.out HT0.out (by assumption)).mono ?_); rintro e w1 ⟨rfl, hb⟩; clear HB; have HB := Aside0.mk hb; clear hb))
  go_ret3
  exact ⟨by first | rfl | (simp; done), HB.out⟩
 rw [if_pos c3] at h
 have c3b : (t == 0) = true := beq_iff_eq.mpr c3
 have c3c : (t != 0) = false := bne_eq_false_iff_eq.mpr c3
 clear c3
 obtain ⟨left0, hl0, H⟩ := Option.bind_eq_some_iff.1 h
 have HL0 := Aside0.mk hl0
 have H0 := Aside0.mk H
 clear h hl0 H
 go_enter Try.func37, Try.ntmps37
 go_wp2_with (first | (go_at_call 44; (refine (branch_read.calls_ok a0 A1 c1 l1 t _ HR1.out HC1.out HT0.out (by assumption)).mono ?_); rintro e w1 ⟨gt, mr, rfl, hg, hbox, hb⟩; have GT := Aside0.mk hg; have HT := Aside0.mk hbox; clear HB; have HB := Aside0.mk hb; clear hg hbox hb) | (go_at_call 47; (refine (branch_town_costs.calls k gt a0 A1 c1 l1 mr left0 _ HT.out (Kd.C_below HR1.out HB.out) HC1.out HL0.out).mono ?_); rintro e w2 ⟨vl, rfl, ho, hb⟩; obtain ⟨Al, cl, rfl⟩ := Kd.R_slice ho; have HO := Aside0.mk (Kd.R_lower ho (below_size HB.out)); have n0_ := Aside0.mk (blk_below HT.out hb); have n1_ := Aside0.mk (below_step HB.out hb); clear HT HB; have HT := n0_; have HB := n1_; clear n0_ n1_ ho hb) | ((with_reducible refine gate_dst (N := 29) rfl ?_); refine map_event ?hg (N := 29) ?hd ?hr ?_; (case hd => rfl); (case hg => rfl); (case hr => rfl); intro m hm w3 hmap hb; have HM := Aside0.mk (SetM.new hmap); have n0_ := Aside0.mk (Kd.R_below (by (with_reducible repeat (first | apply Kd.R_alloc | apply Kd.R_drewN | apply Kd.R_drew)); exact HO.out) hb); have n1_ := Aside0.mk (blk_below (by (with_reducible repeat (first | refine blk_drewN ?_ _ | refine blk_drew ?_ | refine blk_alloc ?_ _)); exact HT.out) hb); have n2_ := Aside0.mk (below_step (by repeat (first | (with_reducible first | exact HB.out | apply below_alloc | apply pw_below_drewN | apply below_drew1) | exact HB.out)) hb); have GM := Aside0.mk ((by rw [hm]; exact (below_size (by repeat (first | (with_reducible first | exact HB.out | apply below_alloc | apply pw_below_drewN | apply below_drew1) | exact HB.out)))) : w.heap.size ≤ m); clear HO HT HB; have HO := n0_; have HT := n1_; have HB := n2_; clear n0_ n1_ n2_ hm hmap hb))
 go_loopg [13, 32] l2.length (fun kq v13 v32 w' => ∃ (i : Nat) (left : List Int) (met : Int → Bool) (worth : Int), v32 = .int .i64 (i : Int) ∧ v13 = .int .i64 worth ∧ Aside0 (i + kq = l2.length) ∧ Aside0 (provesL k a0 l1 (l2.drop i) left met worth = some (r1, r2, r3)) ∧ Aside0 (Kd.R (Kd.int .i64) 3 w' w.heap.size (fun _ => True) (.slice Al left0.length cl) left) ∧ Aside0 (SetM w' m met) ∧ Aside0 (w'.heap[gt]? = some (.cells #[.int .i64 a0, .slice A1 l1.length c1, .map mr] 70 (0, 0))) ∧ Aside0 (Below w.heap.size w w'))
 case atStart => exact ⟨0, left0, _, 0, rfl, rfl, ⟨by simp⟩, ⟨H0.out⟩, ⟨by (with_reducible repeat (first | apply Kd.R_alloc | apply Kd.R_drewN | apply Kd.R_drew)); exact HO.out⟩, ⟨HM.out⟩, ⟨by (with_reducible repeat (first | refine blk_drewN ?_ _ | refine blk_drew ?_ | refine blk_alloc ?_ _)); exact HT.out⟩, ⟨by repeat (first | (with_reducible first | exact HB.out | apply below_alloc | apply pw_below_drewN | apply below_drew1) | exact HB.out)⟩⟩
 case round =>
  clear HO HM HT HB H0
  obtain ⟨i, left, met, worth, rfl, rfl, HI, HH, HO, HM, HT, HB⟩ := hrel
  cases gk with
  | zero =>
   have hi := HI.out
   have c4b : decide ((i : Int) < (l2.length : Int)) = false := decide_eq_false (by omega)
   have c4b2 : decide (i < l2.length) = false := decide_eq_false (by omega)
   have hh := HH.out
   rw [List.drop_eq_nil_of_le (by omega)] at hh
   simp only [provesL, Option.some.injEq, Prod.mk.injEq] at hh
   obtain ⟨rfl, rfl, rfl⟩ := hh
   clear hi
   go_wp2
   go_ret3
   exact ⟨by first | rfl | (simp; done), HB.out⟩
  | succ k1 =>
   have hi0 : (0 : Int) ≤ (i : Int) := Int.natCast_nonneg _
   have hi1 : (i : Int) < (l2.length : Int) := by have := HI.out; omega
   have c4b : decide ((i : Int) < (l2.length : Int)) = true := decide_eq_true hi1
   have c4b2 : decide (i < l2.length) = true := decide_eq_true (by omega)
   have hi2 : i < l2.length := by omega
   have hh := HH.out
   rw [drop_rd41 l2 i hi2] at hh
   obtain ⟨ad, e, hx_0, hx_1⟩ := at_T41 HR2.out (i : Int) hi0 hi1
   cases e
   obtain ⟨x, hx⟩ : ∃ x, rd_T41 l2 (i : Int) = x := ⟨_, rfl⟩
   rw [hx] at hx_0 hx_1 hh
   clear hx HH
   simp only [Int.toNat_natCast] at hx_0 hx_1
   replace hx_0 := (HB.out.cell (World.block_lt_of_cell? w _ hx_0)).trans hx_0
   replace hx_1 := (HB.out.cell (World.block_lt_of_cell? w _ hx_1)).trans hx_1
   replace hi0 := eq_true hi0
   replace hi1 := eq_true hi1
   replace hi2 := eq_true hi2
   unfold provesL at hh
   obtain ⟨bs, hbs, hh⟩ := Option.bind_eq_some_iff.1 hh
   have HBS := Aside0.mk hbs
   have HH := Aside0.mk hh
   clear hbs hh
   have HB0 := Aside0.mk HM.out.self
   go_upto_region 10 with (fail)
   (try simp only [Act.put, List.setIfInBounds_toArray, List.set_cons_zero, List.set_cons_succ])
   obtain ⟨gb, hgb⟩ : ∃ gb, wr.heap.size = gb := ⟨_, rfl⟩
   rw [hgb]
   obtain ⟨wq, hwq⟩ : ∃ wq, wr.alloc (.cells #[.int .i64 x.f0, .int .i64 x.f1] 41) = wq := ⟨_, rfl⟩
   rw [hwq]
   have HB1 := Aside0.mk (hwq ▸ below_alloc HB0.out _ : Below wr.heap.size wr wq)
   have BK := Aside0.mk (hgb ▸ hwq ▸ heap_alloc_new wr _ : wq.heap[gb]? = some (.cells #[.int .i64 x.f0, .int .i64 x.f1] 41 (0, 0)))
   have GEB := Aside0.mk (hgb ▸ HB.out.size : w.heap.size ≤ gb)
   have n0_ := Aside0.mk (below_step HB.out HB1.out)
   have n1_ := Aside0.mk (blk_below HT.out HB1.out)
   have n2_ := Aside0.mk (HM.out.below HB1.out)
   have n3_ := Aside0.mk (Kd.R_below HO.out HB1.out)
   clear hgb hwq HB HT HM HO HB0 HB1 hx_0 hx_1
   have HB := n0_; have HT := n1_; have HM := n2_; have HO := n3_
   clear n0_ n1_ n2_ n3_
   have hb_0 : wq.cell? ⟨gb, 0, none⟩ = some (.int .i64 x.f0) := (blk_cell BK.out 0).trans rfl
   have hb_1 : wq.cell? ⟨gb, 1, none⟩ = some (.int .i64 x.f1) := (blk_cell BK.out 1).trans rfl
   have hlook : ∀ W, Below wq.heap.size wq W → (Instr.lookup 92 (.map (some m)) (.int .i64 x.f0) false).run Try.prog W = .ok (.bool (met x.f0)) W := fun W hW => (HM.out.below hW).lookup Try.underlying92 Try.underlying3 x.f0 (by first | rfl | (go_simp; done))
   have HLK := Aside0.mk hlook
   clear hlook
   obtain ⟨bm, hbm⟩ : ∃ bm, met x.f0 = bm := ⟨_, rfl⟩
   rw [hbm] at HLK HH
   have HBM := Aside0.mk hbm
   clear hbm
   obtain ⟨bz, hbz⟩ : ∃ bz, (!bs || decide (x.f1 < 1) || decide (1000 < x.f1) || bm) = bz := ⟨_, rfl⟩
   rw [hbz] at HH
   have HBZ := Aside0.mk hbz
   clear hbz
   go_cut [56] (fun v56 wc => ∃ b, v56 = .bool b ∧ Aside0 (b = bz) ∧ Aside0 (wc.heap[gb]? = some (.cells #[.int .i64 x.f0, .int .i64 x.f1] 41 (0, 0))) ∧ Aside0 (Kd.R (Kd.int .i64) 3 wc w.heap.size (fun _ => True) (.slice Al left0.length cl) left) ∧ Aside0 (SetM wc m met) ∧ Aside0 (wc.heap[gt]? = some (.cells #[.int .i64 a0, .slice A1 l1.length c1, .map mr] 70 (0, 0))) ∧ Aside0 (Below w.heap.size w wc))
   case first =>
    cases bs with
    | false =>
     go_wp2_with (first | (go_at_call 58; (refine (branch_town_isSet.calls gt a0 A1 c1 l1 mr x.f0 _ _ HT.out (Kd.C_below HR1.out HB.out) HC1.out HBS.out).mono ?_); rintro e w5 ⟨rfl, hdr⟩; obtain ⟨n_, hw5⟩ := hdr.out; have hb : Below wq.heap.size wq w5 := (by rw [hw5]; exact pw_below_drewN (Below.refl _ _) n_); clear hw5 hdr; have n0_ := Aside0.mk (Kd.R_below HO.out hb); have n1_ := Aside0.mk (blk_below HT.out hb); have n2_ := Aside0.mk (HM.out.below hb); have n3_ := Aside0.mk (below_step HB.out hb); have n4_ := Aside0.mk (blk_below BK.out hb); have hlk := HLK.out w5 hb; clear HO HT HM HB BK hb hb_0 hb_1; have HO := n0_; have HT := n1_; have HM := n2_; have HB := n3_; have BK := n4_; clear n0_ n1_ n2_ n3_ n4_; have hb_0 : w5.cell? ⟨gb, 0, none⟩ = some (.int .i64 x.f0) := (blk_cell BK.out 0).trans rfl; have hb_1 : w5.cell? ⟨gb, 1, none⟩ = some (.int .i64 x.f1) := (blk_cell BK.out 1).trans rfl))
     go_meet
     case rel => exact ⟨_, rfl, ⟨by rw [← HBZ.out]; simp only [Bool.not_false, Bool.true_or]; first | done | rfl | simp⟩, BK, HO, HM, HT, HB⟩
    | true =>
     by_cases t0 : x.f1 < 1
     ·have s0 : decide (x.f1 < 1) = true := decide_eq_true t0
      clear t0
      go_wp2_with (first | (go_at_call 58; (refine (branch_town_isSet.calls gt a0 A1 c1 l1 mr x.f0 _ _ HT.out (Kd.C_below HR1.out HB.out) HC1.out HBS.out).mono ?_); rintro e w5 ⟨rfl, hdr⟩; obtain ⟨n_, hw5⟩ := hdr.out; have hb : Below wq.heap.size wq w5 := (by rw [hw5]; exact pw_below_drewN (Below.refl _ _) n_); clear hw5 hdr; have n0_ := Aside0.mk (Kd.R_below HO.out hb); have n1_ := Aside0.mk (blk_below HT.out hb); have n2_ := Aside0.mk (HM.out.below hb); have n3_ := Aside0.mk (below_step HB.out hb); have n4_ := Aside0.mk (blk_below BK.out hb); have hlk := HLK.out w5 hb; clear HO HT HM HB BK hb hb_0 hb_1; have HO := n0_; have HT := n1_; have HM := n2_; have HB := n3_; have BK := n4_; clear n0_ n1_ n2_ n3_ n4_; have hb_0 : w5.cell? ⟨gb, 0, none⟩ = some (.int .i64 x.f0) := (blk_cell BK.out 0).trans rfl; have hb_1 : w5.cell? ⟨gb, 1, none⟩ = some (.int .i64 x.f1) := (blk_cell BK.out 1).trans rfl))
      go_meet
      case rel => exact ⟨_, rfl, ⟨by rw [← HBZ.out]; simp only [Bool.not_true, Bool.false_or, Bool.or_true, Bool.true_or, s0]; first | done | rfl | simp⟩, BK, HO, HM, HT, HB⟩
     have s0 : decide (x.f1 < 1) = false := decide_eq_false t0
     clear t0
     by_cases t1 : 1000 < x.f1
     ·have s1 : decide (1000 < x.f1) = true := decide_eq_true t1
      clear t1
      go_wp2_with (first | (go_at_call 58; (refine (branch_town_isSet.calls gt a0 A1 c1 l1 mr x.f0 _ _ HT.out (Kd.C_below HR1.out HB.out) HC1.out HBS.out).mono ?_); rintro e w5 ⟨rfl, hdr⟩; obtain ⟨n_, hw5⟩ := hdr.out; have hb : Below wq.heap.size wq w5 := (by rw [hw5]; exact pw_below_drewN (Below.refl _ _) n_); clear hw5 hdr; have n0_ := Aside0.mk (Kd.R_below HO.out hb); have n1_ := Aside0.mk (blk_below HT.out hb); have n2_ := Aside0.mk (HM.out.below hb); have n3_ := Aside0.mk (below_step HB.out hb); have n4_ := Aside0.mk (blk_below BK.out hb); have hlk := HLK.out w5 hb; clear HO HT HM HB BK hb hb_0 hb_1; have HO := n0_; have HT := n1_; have HM := n2_; have HB := n3_; have BK := n4_; clear n0_ n1_ n2_ n3_ n4_; have hb_0 : w5.cell? ⟨gb, 0, none⟩ = some (.int .i64 x.f0) := (blk_cell BK.out 0).trans rfl; have hb_1 : w5.cell? ⟨gb, 1, none⟩ = some (.int .i64 x.f1) := (blk_cell BK.out 1).trans rfl))
      go_meet
      case rel => exact ⟨_, rfl, ⟨by rw [← HBZ.out]; simp only [Bool.not_true, Bool.false_or, Bool.or_true, Bool.true_or, s0, s1]; first | done | rfl | simp⟩, BK, HO, HM, HT, HB⟩
     have s1 : decide (1000 < x.f1) = false := decide_eq_false t1
     clear t1
     cases bm with
     | true =>
      go_wp2_with (first | (go_at_call 58; (refine (branch_town_isSet.calls gt a0 A1 c1 l1 mr x.f0 _ _ HT.out (Kd.C_below HR1.out HB.out) HC1.out HBS.out).mono ?_); rintro e w5 ⟨rfl, hdr⟩; obtain ⟨n_, hw5⟩ := hdr.out; have hb : Below wq.heap.size wq w5 := (by rw [hw5]; exact pw_below_drewN (Below.refl _ _) n_); clear hw5 hdr; have n0_ := Aside0.mk (Kd.R_below HO.out hb); have n1_ := Aside0.mk (blk_below HT.out hb); have n2_ := Aside0.mk (HM.out.below hb); have n3_ := Aside0.mk (below_step HB.out hb); have n4_ := Aside0.mk (blk_below BK.out hb); have hlk := HLK.out w5 hb; clear HO HT HM HB BK hb hb_0 hb_1; have HO := n0_; have HT := n1_; have HM := n2_; have HB := n3_; have BK := n4_; clear n0_ n1_ n2_ n3_ n4_; have hb_0 : w5.cell? ⟨gb, 0, none⟩ = some (.int .i64 x.f0) := (blk_cell BK.out 0).trans rfl; have hb_1 : w5.cell? ⟨gb, 1, none⟩ = some (.int .i64 x.f1) := (blk_cell BK.out 1).trans rfl))
      go_meet
      case rel => exact ⟨_, rfl, ⟨by rw [← HBZ.out]; simp only [Bool.not_true, Bool.false_or, Bool.or_true, s0, s1]; first | done | rfl | simp⟩, BK, HO, HM, HT, HB⟩
     | false =>
      go_wp2_with (first | (go_at_call 58; (refine (branch_town_isSet.calls gt a0 A1 c1 l1 mr x.f0 _ _ HT.out (Kd.C_below HR1.out HB.out) HC1.out HBS.out).mono ?_); rintro e w5 ⟨rfl, hdr⟩; obtain ⟨n_, hw5⟩ := hdr.out; have hb : Below wq.heap.size wq w5 := (by rw [hw5]; exact pw_below_drewN (Below.refl _ _) n_); clear hw5 hdr; have n0_ := Aside0.mk (Kd.R_below HO.out hb); have n1_ := Aside0.mk (blk_below HT.out hb); have n2_ := Aside0.mk (HM.out.below hb); have n3_ := Aside0.mk (below_step HB.out hb); have n4_ := Aside0.mk (blk_below BK.out hb); have hlk := HLK.out w5 hb; clear HO HT HM HB BK hb hb_0 hb_1; have HO := n0_; have HT := n1_; have HM := n2_; have HB := n3_; have BK := n4_; clear n0_ n1_ n2_ n3_ n4_; have hb_0 : w5.cell? ⟨gb, 0, none⟩ = some (.int .i64 x.f0) := (blk_cell BK.out 0).trans rfl; have hb_1 : w5.cell? ⟨gb, 1, none⟩ = some (.int .i64 x.f1) := (blk_cell BK.out 1).trans rfl))
      go_meet
      case rel => exact ⟨_, rfl, ⟨by rw [← HBZ.out]; simp only [Bool.not_true, Bool.false_or, Bool.or_false, s0, s1]; first | done | rfl | simp⟩, BK, HO, HM, HT, HB⟩
   case rest =>
    clear BK HO HT HM HB hb_0 hb_1 HLK
    obtain ⟨b, rfl, hbb, BK, HO, HM, HT, HB⟩ := hcut
    obtain rfl := hbb.out
    clear hbb HBZ
    have hh := HH.out
    clear HH
    cases b with
    | true =>
     rw [if_pos rfl] at hh
     simp only [Option.some.injEq, Prod.mk.injEq] at hh
     obtain ⟨rfl, rfl, rfl⟩ := hh
     go_wp2
     go_ret3
     exact ⟨by first | rfl | (simp; done), HB.out⟩
    | false =>
     rw [if_neg (by decide)] at hh
     obtain ⟨E, hE, hh⟩ := Option.bind_eq_some_iff.1 hh
     by_cases hEl : E.length < 17592186044416
     case neg => rw [if_neg hEl] at hh; exact absurd hh (by simp)
     rw [if_pos hEl] at hh
     obtain ⟨o, ho, hh⟩ := Option.bind_eq_some_iff.1 hh
     have HEL := Aside0.mk hEl
     have HEE := Aside0.mk hE
     have HTK := Aside0.mk ho
     have HH := Aside0.mk hh
     clear hEl hE ho hh
     have hb_0 : wc.cell? ⟨gb, 0, none⟩ = some (.int .i64 x.f0) := (blk_cell BK.out 0).trans rfl
     have hb_1 : wc.cell? ⟨gb, 1, none⟩ = some (.int .i64 x.f1) := (blk_cell BK.out 1).trans rfl
     go_wp2_with (first | (at_mapUpdate; refine update_event HM.out Try.underlying92 Try.underlying3 rfl _ _ _ rfl (i := x.f0) rfl rfl rfl ?_; intro w6 hm6 hg6; have n0_ := Aside0.mk (Kd.R_map HO.out HM.out hg6); have n1_ := Aside0.mk (blk_grown HT.out hg6 (by have := HM.out.ne_cells HT.out; intro h; injection h with h; exact this h.symm)); have n2_ := Aside0.mk (blk_grown BK.out hg6 (by have := HM.out.ne_cells BK.out; intro h; injection h with h; exact this h.symm)); have n3_ := Aside0.mk (HB.out.grown hg6 HB.out.size (fun j hj => by cases hj; exact GM.out)); clear HO HT BK HB HM hb_0 hb_1; have HO := n0_; have HT := n1_; have BK := n2_; have HB := n3_; have HM := Aside0.mk hm6; clear n0_ n1_ n2_ n3_ hm6 hg6; have hb_0 : w6.cell? ⟨gb, 0, none⟩ = some (.int .i64 x.f0) := (blk_cell BK.out 0).trans rfl; have hb_1 : w6.cell? ⟨gb, 1, none⟩ = some (.int .i64 x.f1) := (blk_cell BK.out 1).trans rfl) | (go_at_call 59; (refine (branch_town_entering.calls k gt a0 A1 c1 l1 mr x.f0 E _ HT.out (Kd.C_below HR1.out HB.out) HC1.out HEE.out).mono ?_); rintro e w7 ⟨ve, rfl, hoe, hb⟩; obtain ⟨Ae, ce, rfl⟩ := Kd.R_slice hoe; have hlt := Kd.R_lt HO.out; obtain ⟨nb, hnb⟩ : ∃ nb, w6.heap.size = nb := ⟨_, rfl⟩; rw [hnb] at hoe hlt; have HE := Aside0.mk hoe; have HLT := Aside0.mk hlt; have n0_ := Aside0.mk (Kd.R_below HO.out hb); have n1_ := Aside0.mk (blk_below HT.out hb); have n2_ := Aside0.mk (HM.out.below hb); have n3_ := Aside0.mk (below_step HB.out hb); have n4_ := Aside0.mk (blk_below BK.out hb); clear HO HT HM HB BK hb hb_0 hb_1 hoe hlt hnb; have HO := n0_; have HT := n1_; have HM := n2_; have HB := n3_; have BK := n4_; clear n0_ n1_ n2_ n3_ n4_; have hb_0 : w7.cell? ⟨gb, 0, none⟩ = some (.int .i64 x.f0) := (blk_cell BK.out 0).trans rfl; have hb_1 : w7.cell? ⟨gb, 1, none⟩ = some (.int .i64 x.f1) := (blk_cell BK.out 1).trans rfl))
     go_loopg [65] E.length (fun kq v65 w' => ∃ (j : Nat) (lf : List Int), v65 = .int .i64 (j : Int) ∧ Aside0 (j + kq = E.length) ∧ Aside0 (takeB lf (E.drop j) x.f1 = some o) ∧ Aside0 (Kd.R (Kd.int .i64) 3 w' w.heap.size (fun _ => True) (.slice Al left0.length cl) lf) ∧ Aside0 (Kd.R (Kd.int .i64) 3 w' nb (fun _ => True) (.slice Ae E.length ce) E) ∧ Aside0 (SetM w' m (fun j => decide (j = x.f0) || met j)) ∧ Aside0 (w'.heap[gt]? = some (.cells #[.int .i64 a0, .slice A1 l1.length c1, .map mr] 70 (0, 0))) ∧ Aside0 (w'.heap[gb]? = some (.cells #[.int .i64 x.f0, .int .i64 x.f1] 41 (0, 0))) ∧ Aside0 (Below w.heap.size w w'))
     case atStart => exact ⟨0, left, rfl, ⟨by simp⟩, ⟨HTK.out⟩, ⟨by (with_reducible repeat (first | apply Kd.R_alloc | apply Kd.R_drewN | apply Kd.R_drew)); exact HO.out⟩, ⟨by (with_reducible repeat (first | apply Kd.R_alloc | apply Kd.R_drewN | apply Kd.R_drew)); exact HE.out⟩, HM, ⟨by (with_reducible repeat (first | refine blk_drewN ?_ _ | refine blk_drew ?_ | refine blk_alloc ?_ _)); exact HT.out⟩, ⟨by (with_reducible repeat (first | refine blk_drewN ?_ _ | refine blk_drew ?_ | refine blk_alloc ?_ _)); exact BK.out⟩, ⟨by repeat (first | (with_reducible first | exact HB.out | apply below_alloc | apply pw_below_drewN | apply below_drew1) | exact HB.out)⟩⟩
     case round =>
      clear HO HM HT HB BK HE hb_0 hb_1 HTK
      obtain ⟨j, lf, rfl, HJ, HTK, HO, HE, HM, HT, BK, HB⟩ := hrel
      have hb_0 : wr.cell? ⟨gb, 0, none⟩ = some (.int .i64 x.f0) := (blk_cell BK.out 0).trans rfl
      have hb_1 : wr.cell? ⟨gb, 1, none⟩ = some (.int .i64 x.f1) := (blk_cell BK.out 1).trans rfl
      cases gk with
      | zero =>
       have hj := HJ.out
       have d4b : decide ((j : Int) < (E.length : Int)) = false := decide_eq_false (by omega)
       have d4b2 : decide (j < E.length) = false := decide_eq_false (by omega)
       have hh := HTK.out
       rw [List.drop_eq_nil_of_le (by omega)] at hh
       simp only [takeB, Option.some.injEq] at hh
       subst hh
       clear hj
       go_wp2
       go_roundg k1
       case measure => omega
       case rel => exact ⟨i + 1, lf, _, wrap64 (worth + x.f1), val_succ2 i (by have := HI.out; have := HLEN.out; omega), by first | rfl | (simp; done), ⟨by have := HI.out; omega⟩, ⟨HH.out⟩, ⟨by (with_reducible repeat (first | apply Kd.R_alloc | apply Kd.R_drewN | apply Kd.R_drew)); exact HO.out⟩, ⟨HM.out⟩, ⟨by (with_reducible repeat (first | refine blk_drewN ?_ _ | refine blk_drew ?_ | refine blk_alloc ?_ _)); exact HT.out⟩, ⟨by repeat (first | (with_reducible first | exact HB.out | apply below_alloc | apply pw_below_drewN | apply below_drew1) | exact HB.out)⟩⟩
      | succ k2 =>
       have hj0 : (0 : Int) ≤ (j : Int) := Int.natCast_nonneg _
       have hj1 : (j : Int) < (E.length : Int) := by have := HJ.out; omega
       have d4b : decide ((j : Int) < (E.length : Int)) = true := decide_eq_true hj1
       have hj2 : j < E.length := by omega
       have d4b2 : decide (j < E.length) = true := decide_eq_true hj2
       have hh := HTK.out
       rw [drop_rdI E j hj2] at hh
       obtain ⟨ade, e, hy_0⟩ := Kd.at_int (Kd.R_reads' HE.out).2.2 (j : Int) hj0 hj1
       cases e
       obtain ⟨y, hy⟩ : ∃ y, rd E (j : Int) = y := ⟨_, rfl⟩
       rw [hy] at hy_0 hh
       simp only [Int.toNat_natCast] at hy_0
       clear hy HTK
       replace hj0 := eq_true hj0
       replace hj1 := eq_true hj1
       replace hj2 := eq_true hj2
       unfold takeB at hh
       by_cases hr : 0 ≤ y ∧ y < (lf.length : Int)
       case neg => rw [if_neg hr] at hh; exact absurd hh (by simp)
       rw [if_pos hr] at hh
       obtain ⟨y0, y1⟩ := hr
       have hlen : left0.length = lf.length := (Kd.R_reads' HO.out).1
       obtain ⟨go, cap, eo, gbo, glo, clo, hgo⟩ := Kd.R_form HO.out (by omega)
       injection eo with ea_ en_ ec_
       subst ea_ ec_
       clear en_
       have GO := Aside0.mk gbo
       have GC := Aside0.mk hgo
       have GN := Aside0.mk (HLT.out go rfl)
       have y1' : y < (left0.length : Int) := by rw [hlen]; exact y1
       obtain ⟨hc, hf⟩ := Kd.R_celln 0 HO.out y y0 y1'
       replace hc := (show wr.cell? ⟨go, y.toNat, none⟩ = some (.int .i64 (rd lf y)) from hc)
       have HLE := Aside0.mk hlen
       clear hlen gbo glo hgo y1
       obtain ⟨z, hz⟩ : ∃ z, rd lf y = z := ⟨_, rfl⟩
       rw [hz] at hc hh
       clear hz
       have y0b := eq_true y0
       have y1b := eq_true y1'
       by_cases t3 : z < x.f1
       ·rw [if_pos t3] at hh
        have s3 : decide (z < x.f1) = true := decide_eq_true t3
        clear t3
        obtain rfl := Option.some.inj hh
        have h3 := HH.out
        simp only [Option.some.injEq, Prod.mk.injEq] at h3
        obtain ⟨rfl, rfl, rfl⟩ := h3
        go_wp2_with fail
        go_region_held3 (fun w' => w'.cell? ⟨go, y.toNat, none⟩ = some (.int .i64 z) ∧ w'.cell? ⟨gb, 1, none⟩ = some (.int .i64 x.f1)) (go_keep) (fail)
        all_goals go_wp2
        go_ret3
        exact ⟨by first | rfl | (simp; done), by repeat (first | (with_reducible first | exact HB.out | apply below_alloc | apply pw_below_drewN | apply below_drew1) | exact HB.out)⟩
       rw [if_neg t3] at hh
       have s3 : decide (z < x.f1) = false := decide_eq_false t3
       clear t3
       have HTK := Aside0.mk hh
       clear hh
       go_wp2_with fail
       go_region_held3 (fun w' => w'.cell? ⟨go, y.toNat, none⟩ = some (.int .i64 z) ∧ w'.cell? ⟨gb, 1, none⟩ = some (.int .i64 x.f1)) (go_keep) (fail)
       all_goals go_wp2
       have hne : gb ≠ go := blk_ne BK.out GC.out (by decide)
       have hne2 : go ≠ gb := fun h => hne h.symm
       have hnt : gt ≠ go := blk_ne HT.out GC.out (by decide)
       go_region_with (fail)
       all_goals (go_wp2; go_roundg k2; (case measure => omega); (case rel => exact ⟨j + 1, lf.set y.toNat (wrap64 (z - x.f1)), val_succ2 j (by have := HJ.out; have := HEL.out; omega), ⟨by have := HJ.out; omega⟩, HTK, ⟨by (try simp only [i64_w]); (with_reducible repeat (first | apply Kd.R_alloc | apply Kd.R_drewN | apply Kd.R_drew)); exact Kd.R_putn HO.out y (wrap64 (z - x.f1))⟩, ⟨by (with_reducible repeat (first | apply Kd.R_alloc | apply Kd.R_drewN | apply Kd.R_drew)); exact Kd.R_low HE.out GN.out _⟩, ⟨(SetM.set HM.out GC.out _).of_block rfl⟩, ⟨by (with_reducible repeat (first | refine blk_drewN ?_ _ | refine blk_drew ?_ | refine blk_alloc ?_ _)); exact blk_far HT.out hnt _⟩, ⟨by (with_reducible repeat (first | refine blk_drewN ?_ _ | refine blk_drew ?_ | refine blk_alloc ?_ _)); exact blk_far BK.out hne _⟩, ⟨by repeat (first | (with_reducible first | exact HB.out | apply below_alloc | apply pw_below_drewN | apply below_drew1 | refine below_set ?_ GO.out) | exact HB.out)⟩⟩))
end Go.Proofs.Ytpmadffgdfholaa.B
namespace Go.Proofs.Ytpmadffgdfholaa.B
open Go.RowKit Go.MapKept Go.ChangeMaps Go.Proofs.YtpmadffgdfholaaW.PrintWords Go.Proofs.YtpmadffgdfholaaW.PrintLast Go.Proofs.YtpmadffgdfholaaW.PrintMore
/-- Block r ranges over the set g in block m; done: the keys that have come; cnt: how many are still to come. -/
def IterM (w : World) (m r : Nat) (g done : Int → Bool) (cnt : Nat) : Prop :=
  ∃ es clock since seen c0, w.heap[m]? = some (.map es clock) ∧ Good es clock ∧ (∀ e ∈ es.toList, e.val = .bool true) ∧ (∀ i, g i = true ↔ ∃ e ∈ es.toList, e.key = .int .i64 i) ∧
    w.heap[r]? = some (.mapIter (some m) since seen c0) ∧ (∀ x ∈ es.toList, x.born < since) ∧ since ≤ c0 ∧ since ≤ clock ∧ cnt = (leftOf es seen).size ∧
    (∀ e ∈ es.toList, ∀ i, e.key = .int .i64 i → done i = seen.contains e.born) ∧ ∀ i, done i = true → g i = true
theorem IterM.set {w : World} {m r : Nat} {g done : Int → Bool} {cnt : Nat} (h : IterM w m r g done cnt) : SetM w m g := by
  obtain ⟨es, clock, since, seen, c0, hb, hg, hv, hi, _⟩ := h
  exact ⟨es, clock, hb, hg, hv, hi⟩
theorem IterM.lt {w : World} {m r : Nat} {g done : Int → Bool} {cnt : Nat} (h : IterM w m r g done cnt) : r < w.heap.size := by
  obtain ⟨es, clock, since, seen, c0, hb, hg, hv, hi, hr, _⟩ := h
  exact blk_lt hr
theorem IterM.of_blocks {w w1 : World} {m r : Nat} {g done : Int → Bool} {cnt : Nat} (h : IterM w m r g done cnt) (hm : w1.heap[m]? = w.heap[m]?) (hr : w1.heap[r]? = w.heap[r]?) : IterM w1 m r g done cnt := by
  obtain ⟨es, clock, since, seen, c0, hb, hg, hv, hi, hrr, rest⟩ := h
  exact ⟨es, clock, since, seen, c0, hm.trans hb, hg, hv, hi, hr.trans hrr, rest⟩
theorem IterM.ne {w : World} {m r : Nat} {g done : Int → Bool} {cnt : Nat} (h : IterM w m r g done cnt) : r ≠ m := by
  rintro rfl
  obtain ⟨es, clock, since, seen, c0, hb, hg, hv, hi, hr, _⟩ := h
  rw [hb] at hr; injection hr with hr; cases hr
theorem IterM.ne_map {w : World} {m r a : Nat} {g done g2 : Int → Bool} {cnt : Nat} (h : IterM w m r g done cnt) (h2 : SetM w a g2) : r ≠ a := by
  rintro rfl
  obtain ⟨es, clock, since, seen, c0, hb, hg, hv, hi, hr, _⟩ := h
  obtain ⟨es2, clock2, hb2, _⟩ := h2
  rw [hb2] at hr; injection hr with hr; cases hr
theorem IterM.ne_cells {w : World} {m r a : Nat} {g done : Int → Bool} {cnt : Nat} {cs : Array Value} {t : TypeId} {fr : Nat × Nat} (h : IterM w m r g done cnt) (hb : w.heap[a]? = some (.cells cs t fr)) : r ≠ a := by
  rintro rfl
  obtain ⟨es, clock, since, seen, c0, _, hg, hv, hi, hr, _⟩ := h
  rw [hb] at hr; injection hr with hr; cases hr
section
variable {P : Program} {w : World} {m r mt kt et : Nat} {g done : Int → Bool} {cnt : Nat}
theorem SetM.range (h : SetM w m g) (ht : P.underlying mt = some (.map kt et)) :
    ∃ w1 cnt, (Instr.range mt (.map (some m))).run P w = .ok (.pointer (some ⟨w.heap.size, 0, none⟩)) w1 ∧ IterM w1 m w.heap.size g (fun _ => false) cnt ∧ Below w.heap.size w w1 := by
  have hlt := h.lt
  obtain ⟨es, clock, hb, hg, hv, hi⟩ := h
  refine ⟨_, _, run_range_map w mt kt et m es clock ht hb, ⟨es, clock, clock, #[], clock, (Below.heap_alloc w _ m hlt).trans hb, hg, hv, hi, heap_alloc_new w _, hg.old, Nat.le_refl _, Nat.le_refl _, rfl, ?_, ?_⟩, below_alloc (Below.refl _ _) _⟩
  · intro e _ i _; simp
  · intro i h; exact absurd h (by simp)
theorem IterM.next (h : IterM w m r g done cnt) (ty : TypeId) :
    (cnt = 0 ∧ (∀ i, done i = g i) ∧ (Instr.next (.pointer (some ⟨r, 0, none⟩)) false ty).run P w = .ok (.tuple #[.bool false]) w) ∨
    ∃ i w1 cnt1, g i = true ∧ done i = false ∧ (Instr.next (.pointer (some ⟨r, 0, none⟩)) false ty).run P w = .ok (.tuple #[.bool true, .int .i64 i, .bool true]) w1 ∧
      IterM w1 m r g (fun j => decide (j = i) || done j) cnt1 ∧ cnt1 < cnt ∧ w.grownBy w1 (some r) ∧ (Instr.entry (.pointer (some ⟨r, 0, none⟩))).run P w1 = .ok (.tuple #[.int .i64 i, .bool true]) w1 := by
  have hne := h.ne
  obtain ⟨es, clock, since, seen, c0, hb, hg, hv, hi, hr, hold, hsc, hsk, rfl, hd, hdg⟩ := h
  rcases run_next_at (P := P) w ty r m since c0 seen es clock hr hb hold hsc with ⟨h0, hrun⟩ | ⟨e, he, w1, hal, hrun⟩
  · refine .inl ⟨h0, fun i => ?_, hrun⟩
    cases hgi : g i with
    | true =>
      obtain ⟨x, hx, hk⟩ := (hi i).1 hgi
      rw [hd x hx i hk, all_seen es seen h0 x hx]
    | false =>
      cases hdi : done i with
      | false => rfl
      | true => rw [hdg i hdi] at hgi; exact hgi
  · obtain ⟨hem, hes⟩ := mem_left he
    obtain ⟨i, hk⟩ := hg.keys e hem
    have hev := hv e hem
    have hr1 : w1.heap[r]? = some (.mapIter (some m) since seen c0) := by rcases hal with rfl | rfl <;> exact hr
    have hb1 : w1.heap[m]? = some (.map es clock) := by rcases hal with rfl | rfl <;> exact hb
    have hset := heap_set (o' := .mapIter (some m) since (seen.push e.born) clock) hr1
    have hb' : (setBlock w1 r (.mapIter (some m) since (seen.push e.born) clock)).heap[m]? = some (.map es clock) := (hset.2 m (fun e1 => hne e1.symm)).trans hb1
    rw [hk, hev] at hrun
    refine .inr ⟨i, _, _, (hi i).2 ⟨e, hem, hk⟩, by rw [hd e hem i hk]; exact hes, hrun, ⟨es, clock, since, seen.push e.born, clock, hb', hg, hv, hi, hset.1, hold, hsk, hsk, rfl, ?_, ?_⟩, left_shrinks es seen e he, ?_, ?_⟩
    · intro x hx j hj
      show (decide (j = i) || done j) = _
      rw [contains_push, hd x hx j hj]
      by_cases hji : j = i
      · subst hji
        have hxe : x = e := by
          obtain ⟨p, hp⟩ := List.getElem?_of_mem hx
          obtain ⟨q, hq⟩ := List.getElem?_of_mem hem
          have h1 : (es.toList.map (·.key))[p]? = some (.int .i64 j) := by rw [List.getElem?_map, hp]; simp [hj]
          have h2 : (es.toList.map (·.key))[q]? = some (.int .i64 j) := by rw [List.getElem?_map, hq]; simp [hk]
          obtain ⟨l1, _⟩ := List.getElem?_eq_some_iff.1 h1
          have hpq := (List.getElem?_inj l1 hg.once).1 (h1.trans h2.symm)
          subst hpq
          rw [hp] at hq; injection hq
        subst hxe
        simp
      · have hbe : (x.born == e.born) = false := by
          rw [beq_eq_false_iff_ne]
          intro hbb
          apply hji
          have hxe : x = e := by
            obtain ⟨p, hp⟩ := List.getElem?_of_mem hx
            obtain ⟨q, hq⟩ := List.getElem?_of_mem hem
            have h1 : (es.toList.map (·.born))[p]? = some x.born := by rw [List.getElem?_map, hp]; rfl
            have h2 : (es.toList.map (·.born))[q]? = some x.born := by rw [List.getElem?_map, hq, hbb]; rfl
            obtain ⟨l1, _⟩ := List.getElem?_eq_some_iff.1 h1
            have hpq := (List.getElem?_inj l1 hg.born).1 (h1.trans h2.symm)
            subst hpq
            rw [hp] at hq; injection hq
          subst hxe
          rw [hj] at hk; injection hk
        rw [hbe]
        simp [hji]
    · intro j hj
      simp only [Bool.or_eq_true, decide_eq_true_eq] at hj
      rcases hj with rfl | hj
      · exact (hi j).2 ⟨e, hem, hk⟩
      · exact hdg j hj
    · rcases hal with rfl | rfl <;> exact ⟨rfl, rfl, rfl, by simp [setBlock], fun i _ hi => hset.2 i (fun e1 => hi (by rw [e1]))⟩
    · have := run_entry_at (P := P) _ r m since seen es clock e hset.1 hb' hem hg.born
      rw [hk, hev] at this
      exact this
/-- The two operations as_ steps of a walk. -/
theorem range_event {ops : Array Oper} {rest : List Oper} {o : Oper} {a : Act} {Q : Exit → Act → World → Prop} (hM : SetM w m g) (ht : P.underlying mt = some (.map kt et)) (hg : o.guard = none) (mo : Operand) (hop : o.op = Op.range mt mo) (hm : a.eval mo = .map (some m))
    (hK : ∀ r w1 cnt, w.heap.size ≤ r → IterM w1 m r g (fun _ => false) cnt → Below w.heap.size w w1 → wpList P ops Q rest (a.put o.dst (.pointer (some ⟨r, 0, none⟩))) w1) : wpList P ops Q (o :: rest) a w := by
  refine wpList_plain hg fun K' hK' => ?_
  obtain ⟨w1, cnt, hrun, h1, h2⟩ := hM.range ht
  unfold Oper.wp
  simp [execOp, hop, hm, hrun, Result.andThen]
  exact hK' _ _ (hK _ _ _ (Nat.le_refl _) h1 h2)
theorem next_event {ops : Array Oper} {rest : List Oper} {o : Oper} {a : Act} {Q : Exit → Act → World → Prop} (hI : IterM w m r g done cnt) (hg : o.guard = none) (it : Operand) (hop : o.op = Op.next it false) (hm : a.eval it = .pointer (some ⟨r, 0, none⟩))
    (hD : cnt = 0 → (∀ i, done i = g i) → wpList P ops Q rest (a.put o.dst (.tuple #[.bool false])) w)
    (hK : ∀ i w1 cnt1, g i = true → done i = false → IterM w1 m r g (fun j => decide (j = i) || done j) cnt1 → cnt1 < cnt → w.grownBy w1 (some r) → (Instr.entry (.pointer (some ⟨r, 0, none⟩))).run P w1 = .ok (.tuple #[.int .i64 i, .bool true]) w1 →
      wpList P ops Q rest (a.put o.dst (.tuple #[.bool true, .int .i64 i, .bool true])) w1) : wpList P ops Q (o :: rest) a w := by
  refine wpList_plain hg fun K' hK' => ?_
  unfold Oper.wp
  rcases hI.next (P := P) o.type with ⟨h0, hd, hrun⟩ | ⟨i, w1, cnt1, h1, h2, hrun, h3, h4, h5, h6⟩
  · simp [execOp, hop, hm, hrun, Result.andThen]
    exact hK' _ _ (hD h0 hd)
  · simp [execOp, hop, hm, hrun, Result.andThen]
    exact hK' _ _ (hK i w1 cnt1 h1 h2 h3 h4 h5 h6)
end
end Go.Proofs.Ytpmadffgdfholaa.B
namespace Go.Proofs.Ytpmadffgdfholaa.B
open Go.RowKit Go.Proofs.YtpmadffgdfholaaW.PrintWords Go.Proofs.YtpmadffgdfholaaW.PrintLast Go.Proofs.YtpmadffgdfholaaW.PrintMore
set_option linter.unusedVariables false
set_option linter.unusedSimpArgs false
def slices_Clone.f (l0 : List Int) : Option (List Int) := if l0.length < 17592186044416 then some l0 else none
set_option maxHeartbeats 800000 in
set_option maxRecDepth 100000 in
theorem slices_Clone.calls (A0 : Option Addr) (c0 : Nat) (l0 : List Int) (r : List Int) (w : World) (hr0 : Kd.C (Kd.int .i64) w A0 l0.length l0) (hc0 : l0.length ≤ c0) (h : slices_Clone.f l0 = some r) :
  Calls Try.prog 67 #[.slice A0 l0.length c0] w fun e w' => ∃ v0_ : Value, e = .returned (v0_) ∧ Kd.R (Kd.int .i64) 3 w' w.heap.size (fun _ => True) v0_ r ∧ Below w.heap.size w w' := by
 have HR0 := Aside0.mk hr0
 clear hr0
 have qT : ∀ (w : World) (a : Option Addr) (n c n' c' : Nat), (binOp .eql 28 (.slice a n c) (.slice none n' c')).run Try.prog w = .ok (.bool a.isNone) w := fun w a n c n' c' => Lib.run_eql_slice_nil w _ _ a n c n' c' Try.underlying28
 unfold slices_Clone.f at h
 split at h
 case isFalse => exact absurd h (by simp)
 rename_i hl
 obtain rfl := Option.some.inj h
 clear h
 have HB := Aside0.mk (Below.refl w.heap.size w)
 rcases A0 with _ | ad
 ·obtain rfl : l0 = [] := by
   obtain ⟨inner, h1, h2⟩ := HR0.out
   rcases l0 with _ | ⟨x, l⟩
   ·rfl
   ·obtain ⟨ad, c, e, _⟩ := Kd.C_get HR0.out 0 0 (by omega) (by simp)
    exact absurd e (by simp)
  go_enter Try.func67, Try.ntmps67
  go_wp2
  go_ret
  exact ⟨_, rfl, Kd.R_nil _ _ _ _ _, by repeat (first | exact Below.refl _ _ | apply below_alloc)⟩
 ·go_enter Try.func67, Try.ntmps67
  go_wp2_with (first | ((with_reducible refine gate_dst (N := 5) rfl ?_); refine Kd.R_lit (Kd.int .i64) _ 3 ?hg (N := 5) ?hd (xs := ([] : List Int)) (inner := []) (ok := fun _ => True) (okp := fun _ => True) ?hr ?hp (fun _ hk => hk) trivial (Below.refl _ _) (Nat.le_refl _) (by simp) ?_; (case hd => rfl); (case hg => rfl); (case hr => first | (go_simp; done) | (go_simp; rfl)); (case hp => exact (Reps.none _ _)); intro v5 w1 ho2 hb hg_ hnew_; have HO := Aside0.mk ho2; have HB1 := Aside0.mk hb; clear ho2 hb hg_ hnew_) | ((with_reducible refine gate_dst (N := 7) rfl ?_); refine Kd.R_append_rows (Kd.int .i64) (w0 := w) w.heap.size rfl (.tmp 5) (.tmp 6) 28 3 (.int .i64 0) 8 rfl Try.underlying28 info3 rfl (by decide) (by omega) v5 ([] : List Int) l0 _ _ _ (fun _ => True) (fun _ => False) rfl rfl ?aO ?aR (fun _ _ h => h) (fun _ h => h.elim) ?aF ?aB ?aS ?aL ?_; (case aR => exact Kd.C_below HR0.out HB1.out); (case aB => exact HB1.out); (case aF => exact (fun _ _ => trivial)); (case aO => exact HO.out); (case aS => exact HB1.out.size); (case aL => simp; omega); intro v7 w2 ho2 hb hg_ hat_; have HO2 := Aside0.mk ho2; have HB2 := Aside0.mk hb; clear ho2 hb hg_ hat_))
  go_ret
  exact ⟨_, rfl, by simpa using HO2.out, HB2.out⟩
end Go.Proofs.Ytpmadffgdfholaa.B
namespace Go.Proofs.Ytpmadffgdfholaa.B
open Go.RowKit Go.Proofs.YtpmadffgdfholaaW.PrintWords Go.Proofs.YtpmadffgdfholaaW.PrintLast Go.Proofs.YtpmadffgdfholaaW.PrintMore
attribute [local go_sem] max2_int min2_int max_two min_two max_three min_three max_four min_four   -- for this text's walks alone
set_option linter.unusedVariables false
set_option linter.unusedSimpArgs false
mutual
def branch_determinant.l0 : Nat → List (List Int) → Int → Int → List Int → Int → Int → Option (Int)
  | 0, _, _, _, _, _, _ => none
  | k + 1, x0, x3, x4, x15, x16, x17 => if x17 < x16 then (if 0 ≤ x17 then (if x17 < (x15.length : Int) then (if (rd x15 x17) = 0 then (branch_determinant.l0 k x0 x3 (wrap64 (-x4)) x15 x16 (wrap64 (x17 + 1))) else (if 1 ≤ (x0.length : Int) then ((some (x0.drop 1 : List (List Int))).bind fun y103 => (branch_determinant.l1 k x0 x3 x4 x17 (rd x15 x17) ([] : List (List Int)) x15 x16 x17 y103 (y103.length : Int) 0)) else (none))) else (none)) else (none)) else (some x3)
def branch_determinant.l1 : Nat → List (List Int) → Int → Int → Int → Int → List (List Int) → List Int → Int → Int → List (List Int) → Int → Int → Option (Int)
  | 0, _, _, _, _, _, _, _, _, _, _, _, _ => none
  | k + 1, x0, x3, x4, x5, x6, x7, x15, x16, x17, x25, x26, x27 => if x27 < x26 then (if 0 ≤ x27 then (if x27 < (x25.length : Int) then (if 0 ≤ x5 then (if x5 ≤ ((rd_L12 x25 x27).length : Int) then ((slices_Clone.f ((rd_L12 x25 x27).take (x5 : Int).toNat)).bind fun t109 => (if 0 ≤ (wrap64 (x5 + 1)) then (if (wrap64 (x5 + 1)) ≤ ((rd_L12 x25 x27).length : Int) then (if t109.length + ((rd_L12 x25 x27).drop ((wrap64 (x5 + 1)) : Int).toNat).length < 17592186044416 then (if x7.length < 5864062014805 then (branch_determinant.l1 k x0 x3 x4 x5 x6 (x7 ++ [(t109 ++ ((rd_L12 x25 x27).drop ((wrap64 (x5 + 1)) : Int).toNat))]) x15 x16 x17 x25 x26 (wrap64 (x27 + 1))) else (none)) else (none)) else (none)) else (none))) else (none)) else (none)) else (none)) else (none)) else ((branch_determinant.f k x7).bind fun t119 => (branch_determinant.l0 k x0 (wrap64 (x3 + (wrap64 ((wrap64 (x4 * x6)) * t119)))) (wrap64 (-x4)) x15 x16 (wrap64 (x17 + 1))))
def branch_determinant.f : Nat → List (List Int) → Option (Int)
  | 0, _ => none
  | k + 1, l0 => if (l0.length : Int) = 0 then (some 1) else (if 0 < (l0.length : Int) then (branch_determinant.l0 k l0 0 1 (rd_L12 l0 0) ((rd_L12 l0 0).length : Int) 0) else (none))
end
theorem branch_determinant.mono_l : ∀ k, (∀ y0, LeO (branch_determinant.f k y0) (branch_determinant.f (k + 1) y0)) ∧ (∀ y0 y1 y2 y3 y4 y5, LeO (branch_determinant.l0 k y0 y1 y2 y3 y4 y5) (branch_determinant.l0 (k + 1) y0 y1 y2 y3 y4 y5)) ∧ (∀ y0 y1 y2 y3 y4 y5 y6 y7 y8 y9 y10 y11, LeO (branch_determinant.l1 k y0 y1 y2 y3 y4 y5 y6 y7 y8 y9 y10 y11) (branch_determinant.l1 (k + 1) y0 y1 y2 y3 y4 y5 y6 y7 y8 y9 y10 y11))
  | 0 => ⟨fun _ r h => by simp [branch_determinant.f] at h, fun _ _ _ _ _ _ r h => by simp [branch_determinant.l0] at h, fun _ _ _ _ _ _ _ _ _ _ _ _ r h => by simp [branch_determinant.l1] at h⟩
  | k + 1 => by
    obtain ⟨ih0, ih1, ih2⟩ := branch_determinant.mono_l k
    refine ⟨?_, ?_, ?_⟩
    · intro y0
      unfold branch_determinant.f
      repeat' first
      | (with_reducible exact ih0 _)
      | (with_reducible exact ih1 _ _ _ _ _ _)
      | (with_reducible exact ih2 _ _ _ _ _ _ _ _ _ _ _ _)
      | (with_reducible exact LeO.refl _)
      | (with_reducible exact LeO.none _)
      | (with_reducible refine LeO.ite ?_ ?_)
      | (with_reducible refine LeO.bind ?_ (fun _ => ?_))
      | exact ih0 _
      | exact ih1 _ _ _ _ _ _
      | exact ih2 _ _ _ _ _ _ _ _ _ _ _ _
      | exact LeO.none _
      | refine LeO.ite ?_ ?_
      | refine LeO.bind ?_ (fun _ => ?_)
    · intro y0 y1 y2 y3 y4 y5
      unfold branch_determinant.l0
      repeat' first
      | (with_reducible exact ih0 _)
      | (with_reducible exact ih1 _ _ _ _ _ _)
      | (with_reducible exact ih2 _ _ _ _ _ _ _ _ _ _ _ _)
      | (with_reducible exact LeO.refl _)
      | (with_reducible exact LeO.none _)
      | (with_reducible refine LeO.ite ?_ ?_)
      | (with_reducible refine LeO.bind ?_ (fun _ => ?_))
      | exact ih0 _
      | exact ih1 _ _ _ _ _ _
      | exact ih2 _ _ _ _ _ _ _ _ _ _ _ _
      | exact LeO.none _
      | refine LeO.ite ?_ ?_
      | refine LeO.bind ?_ (fun _ => ?_)
    · intro y0 y1 y2 y3 y4 y5 y6 y7 y8 y9 y10 y11
      unfold branch_determinant.l1
      repeat' first
      | (with_reducible exact ih0 _)
      | (with_reducible exact ih1 _ _ _ _ _ _)
      | (with_reducible exact ih2 _ _ _ _ _ _ _ _ _ _ _ _)
      | (with_reducible exact LeO.refl _)
      | (with_reducible exact LeO.none _)
      | (with_reducible refine LeO.ite ?_ ?_)
      | (with_reducible refine LeO.bind ?_ (fun _ => ?_))
      | exact ih0 _
      | exact ih1 _ _ _ _ _ _
      | exact ih2 _ _ _ _ _ _ _ _ _ _ _ _
      | exact LeO.none _
      | refine LeO.ite ?_ ?_
      | refine LeO.bind ?_ (fun _ => ?_)
theorem branch_determinant.mono : ∀ a0 k, LeO (branch_determinant.f k a0) (branch_determinant.f (k + 1) a0) := by
  intro a0 k
  obtain ⟨ih0, ih1, ih2⟩ := branch_determinant.mono_l k
  exact ih0 a0
def branch_determinant.T12 : Bool × List (List Nat × List Nat) := (true, [([], []), ([], []), ([], []), ([1, 2], [1, 2]), ([3], [3]), ([], []), ([], []), ([6], [6]), ([5, 7], [5, 7]), ([4, 8, 4], [4, 8]), ([9], [9]), ([0, 10, 9], [0, 10]), ([11, 11, 0, 1, 2, 3, 4, 5, 6, 7, 8, 9, 10, 11], [0, 11])])
def branch_determinant.B12 : List Nat := [0, 0, 0, 6, 14, 0, 0, 64, 224, 510, 1022, 2047, 4095]
theorem branch_determinant.tab12 : rtab .any (opsOf Try.f45 12) = branch_determinant.T12 := by kernel_rfl
theorem branch_determinant.bits12 : waitsOk branch_determinant.T12.2 branch_determinant.B12 = true := by kernel_rfl
set_option maxHeartbeats 8000000 in
set_option maxRecDepth 100000 in
theorem branch_determinant.calls (k : Nat) : ∀ (A0 : Option Addr) (c0 : Nat) (l0 : List (List Int)) (r : Int) (w : World) (hr0 : Kd.C (Kd.slice 3 (Kd.int .i64)) w A0 l0.length l0) (hc0 : l0.length ≤ c0) (h : branch_determinant.f k l0 = some r),
  Calls Try.prog 45 #[.slice A0 l0.length c0] w fun e w' => e = .returned (.int .i64 r) ∧ Below w.heap.size w w' := by
 induction k using Nat.strongRecOn with
 | _ k ih =>
 intro A0 c0 l0 r w hr0 hc0 h
 cases k with
 | zero => exact absurd h (by simp [branch_determinant.f])
 | succ k =>
 simp only [branch_determinant.f] at h
 have HR0 := Aside0.mk hr0
 have HC0 := Aside0.mk hc0
 clear hr0 hc0
 have HB := Aside0.mk (Below.refl w.heap.size w)
 have H : (if (l0.length : Int) = 0 then (some 1) else (if 0 < (l0.length : Int) then (branch_determinant.l0 k l0 0 1 (rd_L12 l0 0) ((rd_L12 l0 0).length : Int) 0) else (none))) = some r := h
 clear h
 by_cases c2 : (l0.length : Int) = 0
 ·rw [if_pos c2] at H
  have c2b0 : ((l0.length : Int) == 0) = true := beq_iff_eq.mpr c2
  have c2b1 : ((l0.length : Int) != 0) = false := bne_eq_false_iff_eq.mpr c2
  clear c2
  obtain rfl := Option.some.inj H
  go_enter Try.func45, Try.ntmps45
  go_wp2
  go_ret
  exact ⟨by first | rfl | (simp [errW_none, errW_some] <;> rfl) | (simp [*, errW_none, errW_some] <;> rfl), by repeat (first | (with_reducible first | exact HB.out | apply below_alloc | apply pw_below_drewN | apply below_drew1) | exact HB.out)⟩
 ·rw [if_neg c2] at H
  have c2b0 : ((l0.length : Int) == 0) = false := beq_eq_false_iff_ne.mpr c2
  have c2b1 : ((l0.length : Int) != 0) = true := bne_iff_ne.mpr c2
  have c2b2 : ¬ (l0 = []) := fun h_ => c2 (by rw [h_]; rfl)
  by_cases c3 : 0 < (l0.length : Int)
  ·rw [if_pos c3] at H
   have c3b0 : decide (0 < (l0.length : Int)) = true := decide_eq_true c3
   have c3b1 : decide (0 < l0.length) = true := decide_eq_true (by omega)
   clear c3
   have H' := Aside0.mk H
   clear H
   have p101 : 0 ≤ (0 : Int) := (by omega)
   have q101 : 0 < (l0.length : Int) := of_decide_eq_true (by first | (with_reducible assumption) | assumption)
   obtain ⟨ad101, A101_0, c101_0, e101, hx101_0, hl101_0, hi101_0⟩ := at_L12 HR0.out 0 p101 q101
   cases e101
   have qi101 : (0 < l0.length) = True := eq_true (by omega)
   (try rw [show ((0 : Int)).toNat = 0 from rfl] at hx101_0)
   (try rw [Addr.add_zero'] at hx101_0)
   have HR101_0 := Aside0.mk hi101_0
   have HC101_0 := Aside0.mk hl101_0
   clear hi101_0 hl101_0
   replace p101 := eq_true p101
   replace q101 := eq_true q101
   go_enter Try.func45, Try.ntmps45
   go_wp2
   go_loopg [3, 4, 17] k (fun kq v3 v4 v17 w' => ∃ (x3_1 : Int) (x4_1 : Int) (x17_1 : Int), v3 = .int .i64 x3_1 ∧ v4 = .int .i64 x4_1 ∧ v17 = .int .i64 x17_1 ∧ Aside0 (branch_determinant.l0 kq l0 x3_1 x4_1 (rd_L12 l0 0) ((rd_L12 l0 0).length : Int) x17_1 = some r) ∧ Aside0 (kq ≤ k) ∧ Aside0 (Below w.heap.size w w'))
   case atStart => exact ⟨(0), (1), (0), (by first | rfl | (simp; done) | (simp [*]; done)), (by first | rfl | (simp; done) | (simp [*]; done)), (by first | rfl | (simp; done) | (simp [*]; done)), H', ⟨Nat.le_refl _⟩, ⟨by repeat (first | (with_reducible first | exact HB.out | apply below_alloc | apply pw_below_drewN | apply below_drew1) | exact HB.out)⟩⟩
   case round =>
    clear H'
    try clear c1
    try clear p1
    try clear q1
    try clear hx1
    try clear qi1
    try clear c2
    try clear c2b0
    try clear c2b1
    try clear c2b2
    try clear p2
    try clear c3
    try clear c3b0
    try clear c3b1
    try clear hx101_0
    try clear p101
    try clear q101
    obtain ⟨x3_1, x4_1, x17_1, rfl, rfl, rfl, HA, HK1, HB⟩ := hrel
    cases gk with
    | zero => exact absurd HA.out (by simp [branch_determinant.l0])
    | succ k1 =>
     have H := HA.out
     clear HA
     simp only [branch_determinant.l0] at H
     by_cases c4 : x17_1 < ((rd_L12 l0 0).length : Int)
     ·rw [if_pos c4] at H
      have c4b0 : decide (x17_1 < ((rd_L12 l0 0).length : Int)) = true := decide_eq_true c4
      clear c4
      by_cases c5 : 0 ≤ x17_1
      ·rw [if_pos c5] at H
       have c5b0 : decide (0 ≤ x17_1) = true := decide_eq_true c5
       clear c5
       by_cases c6 : x17_1 < ((rd_L12 l0 0).length : Int)
       ·rw [if_pos c6] at H
        have c6b0 : decide (x17_1 < ((rd_L12 l0 0).length : Int)) = true := decide_eq_true c6
        clear c6
        by_cases c7 : (rd (rd_L12 l0 0) x17_1) = 0
        ·rw [if_pos c7] at H
         have c7b0 : ((rd (rd_L12 l0 0) x17_1) == 0) = true := beq_iff_eq.mpr c7
         have c7b1 : ((rd (rd_L12 l0 0) x17_1) != 0) = false := bne_eq_false_iff_eq.mpr c7
         clear c7
         have H' := Aside0.mk H
         clear H
         have p102 : 0 ≤ (x17_1 : Int) := of_decide_eq_true (by first | (with_reducible assumption) | assumption)
         have q102 : x17_1 < ((rd_L12 l0 0).length : Int) := of_decide_eq_true (by first | (with_reducible assumption) | assumption)
         obtain ⟨ad102, e102, hx102_0⟩ := Kd.at_int HR101_0.out x17_1 p102 q102
         cases e102
         replace hx102_0 := (HB.out.cell (World.block_lt_of_cell? w _ hx102_0)).trans hx102_0
         replace p102 := eq_true p102
         replace q102 := eq_true q102
         go_wp2
         go_roundg k1
         case measure => have := HK1.out; omega
         case rel => exact ⟨(x3_1), (wrap64 (-x4_1)), (wrap64 (x17_1 + 1)), (by first | rfl | (simp; done) | (simp [*]; done)), (by first | rfl | (simp; done) | (simp [*]; done)), (by first | rfl | (simp; done) | (simp [*]; done)), H', ⟨by have := HK1.out; omega⟩, ⟨by repeat (first | (with_reducible first | exact HB.out | apply below_alloc | apply pw_below_drewN | apply below_drew1) | exact HB.out)⟩⟩
        ·rw [if_neg c7] at H
         have c7b0 : ((rd (rd_L12 l0 0) x17_1) == 0) = false := beq_eq_false_iff_ne.mpr c7
         have c7b1 : ((rd (rd_L12 l0 0) x17_1) != 0) = true := bne_iff_ne.mpr c7
         by_cases c8 : 1 ≤ (l0.length : Int)
         ·rw [if_pos c8] at H
          have c8b0 := eq_true c8
          have c8b1 : decide (1 ≤ (l0.length : Int)) = true := decide_eq_true c8
          clear c8
          obtain ⟨y103, hy103⟩ : ∃ y_ : List (List Int), y_ = (l0.drop 1) := ⟨_, rfl⟩
          replace H : (branch_determinant.l1 k1 l0 x3_1 x4_1 x17_1 (rd (rd_L12 l0 0) x17_1) ([] : List (List Int)) (rd_L12 l0 0) ((rd_L12 l0 0).length : Int) x17_1 y103 (y103.length : Int) 0) = some r := by first | (rw [hy103]; with_reducible exact H) | (have H2_ := (Option.bind_some _ _).symm.trans H; rw [hy103]; with_reducible exact H2_) | (have H2_ := (Option.bind_some _ _).symm.trans H; with_reducible exact H2_) | with_reducible exact H | (rw [hy103]; exact H) | exact H
          have Ny103 := Aside0.mk hy103
          clear hy103
          have H' := Aside0.mk H
          clear H
          have p102 : 0 ≤ (x17_1 : Int) := of_decide_eq_true (by first | (with_reducible assumption) | assumption)
          have q102 : x17_1 < ((rd_L12 l0 0).length : Int) := of_decide_eq_true (by first | (with_reducible assumption) | assumption)
          obtain ⟨ad102, e102, hx102_0⟩ := Kd.at_int HR101_0.out x17_1 p102 q102
          cases e102
          replace hx102_0 := (HB.out.cell (World.block_lt_of_cell? w _ hx102_0)).trans hx102_0
          replace p102 := eq_true p102
          replace q102 := eq_true q102
          have q9 : (1 : Int) ≤ ((l0.length : Int) : Int) := of_decide_eq_true (by first | (with_reducible assumption) | assumption)
          obtain ⟨i09, hi09, _, hsz9, _⟩ := info_parts info28
          have hroom9 : l0.length ≤ c0 := HC0.out
          have hC9 : Kd.C (Kd.slice 3 (Kd.int .i64)) _ (some ad101) l0.length l0 := HR0.out
          have hcut9 := cut_from (P := Try.prog) 27 28 .i64 Try.underlying27 hi09 1 hsz9 (some ad101) l0.length c0 1 (by omega) q9
          have hr9 := Kd.C_drop (m := (1 : Int).toNat) (c := c0) hC9 (by omega) hroom9
          obtain ⟨A9, hA9⟩ : ∃ A1, A1 = (if c0 = (1 : Int).toNat then (some ad101) else ((some ad101) : Option Addr).map (·.add ((1 : Int).toNat * 1))) := ⟨_, rfl⟩
          obtain ⟨c9, hc9⟩ : ∃ c1, c1 = c0 - (1 : Int).toNat := ⟨_, rfl⟩
          have hy9 : y103.length = l0.length - (1 : Int).toNat := (by rw [Ny103.out, List.length_drop] <;> omega)
          rw [show (l0).drop (1 : Int).toNat = y103 from Ny103.out.symm] at hr9
          replace hr9 : Kd.C (Kd.slice 3 (Kd.int .i64)) _ A9 y103.length y103 := (by rw [hA9]; exact hr9)
          rw [← hy9, ← hA9, ← hc9] at hcut9
          have HR106 := Aside0.mk hr9
          have HC106 := Aside0.mk (show y103.length ≤ c9 from by rw [hy9, hc9]; exact Nat.sub_le_sub_right hroom9 _)
          clear hr9 hC9 hroom9 hi09 hsz9 hc9
          have KY9 := Aside0.mk hy9
          have KA9 := Aside0.mk hA9
          clear hy9 hA9
          replace q9 := eq_true q9
          go_wp2
          go_loopg [7, 27] k1 (fun kq v7 v27 w' => ∃ (x7_2 : List (List Int)) (x27_2 : Int), v27 = .int .i64 x27_2 ∧ Aside0 (branch_determinant.l1 kq l0 x3_1 x4_1 x17_1 (rd (rd_L12 l0 0) x17_1) x7_2 (rd_L12 l0 0) ((rd_L12 l0 0).length : Int) x17_1 y103 (y103.length : Int) x27_2 = some r) ∧ Aside0 (kq ≤ k1) ∧ Aside0 (Kd.S (Kd.slice 3 (Kd.int .i64)) 28 w' w.heap.size (fun _ => True) v7 x7_2) ∧ Aside0 (Below w.heap.size w w'))
          case atStart => exact ⟨(([] : List (List Int))), (0), (by first | rfl | (simp; done) | (simp [*]; done)), H', ⟨Nat.le_refl _⟩, ⟨by first | exact Kd.S_nil _ _ _ _ _ | exact Kd.N_nil _ _ _ _ _ | exact Kd.V_nil _ _ _ _ _ | exact Kd.Q_nil _ _ _ _ _ | exact Kd.R_nil _ _ _ _ _⟩, ⟨by repeat (first | (with_reducible first | exact HB.out | apply below_alloc | apply pw_below_drewN | apply below_drew1) | exact HB.out)⟩⟩
          case round =>
           clear H'
           try clear c1
           try clear p1
           try clear q1
           try clear hx1
           try clear qi1
           try clear c2
           try clear c2b0
           try clear c2b1
           try clear c2b2
           try clear p2
           try clear c3
           try clear c3b0
           try clear c3b1
           try clear c4
           try clear c4b0
           try clear c5
           try clear c5b0
           try clear c6
           try clear c6b0
           try clear p6
           try clear c7
           try clear c7b0
           try clear c7b1
           try clear c8
           try clear c8b0
           try clear c8b1
           try clear c9
           try clear q9
           try clear hx101_0
           try clear hx102_0
           try clear p1
           try clear p101
           try clear p102
           try clear p2
           try clear q1
           try clear q101
           try clear q102
           try clear q9
           obtain ⟨x7_2, x27_2, rfl, HA, HK2, HO_7, HB⟩ := hrel
           cases gk with
           | zero => exact absurd HA.out (by simp [branch_determinant.l1])
           | succ k2 =>
            have H := HA.out
            clear HA
            simp only [branch_determinant.l1] at H
            by_cases c10 : x27_2 < (y103.length : Int)
            ·rw [if_pos c10] at H
             have c10b0 : decide (x27_2 < (y103.length : Int)) = true := decide_eq_true c10
             clear c10
             by_cases c11 : 0 ≤ x27_2
             ·rw [if_pos c11] at H
              have c11b0 : decide (0 ≤ x27_2) = true := decide_eq_true c11
              clear c11
              by_cases c12 : x27_2 < (y103.length : Int)
              ·rw [if_pos c12] at H
               have c12b0 : decide (x27_2 < (y103.length : Int)) = true := decide_eq_true c12
               clear c12
               by_cases c13 : 0 ≤ x17_1
               ·rw [if_pos c13] at H
                have c13b0 := eq_true c13
                have c13b1 : decide (0 ≤ x17_1) = true := decide_eq_true c13
                clear c13
                by_cases c14 : x17_1 ≤ ((rd_L12 y103 x27_2).length : Int)
                ·rw [if_pos c14] at H
                 have c14b0 := eq_true c14
                 have c14b1 : decide (x17_1 ≤ ((rd_L12 y103 x27_2).length : Int)) = true := decide_eq_true c14
                 clear c14
                 replace H := Option.bind_eq_some_iff.mp H
                 obtain ⟨t109, A150, H⟩ := H
                 replace H : (if 0 ≤ (wrap64 (x17_1 + 1)) then (if (wrap64 (x17_1 + 1)) ≤ ((rd_L12 y103 x27_2).length : Int) then (if t109.length + ((rd_L12 y103 x27_2).drop ((wrap64 (x17_1 + 1)) : Int).toNat).length < 17592186044416 then (if x7_2.length < 5864062014805 then (branch_determinant.l1 k2 l0 x3_1 x4_1 x17_1 (rd (rd_L12 l0 0) x17_1) (x7_2 ++ [(t109 ++ ((rd_L12 y103 x27_2).drop ((wrap64 (x17_1 + 1)) : Int).toNat))]) (rd_L12 l0 0) ((rd_L12 l0 0).length : Int) x17_1 y103 (y103.length : Int) (wrap64 (x27_2 + 1))) else (none)) else (none)) else (none)) else (none)) = some r := H
                 have A15 := Aside0.mk A150
                 clear A150
                 obtain ⟨ji16, hji16⟩ : ∃ j_ : Int, (wrap64 (x17_1 + 1)) = j_ := ⟨_, rfl⟩
                 replace H : (if 0 ≤ (ji16) then (if (ji16) ≤ ((rd_L12 y103 x27_2).length : Int) then (if t109.length + ((rd_L12 y103 x27_2).drop ((ji16) : Int).toNat).length < 17592186044416 then (if x7_2.length < 5864062014805 then (branch_determinant.l1 k2 l0 x3_1 x4_1 x17_1 (rd (rd_L12 l0 0) x17_1) (x7_2 ++ [(t109 ++ ((rd_L12 y103 x27_2).drop ((ji16) : Int).toNat))]) (rd_L12 l0 0) ((rd_L12 l0 0).length : Int) x17_1 y103 (y103.length : Int) (wrap64 (x27_2 + 1))) else (none)) else (none)) else (none)) else (none)) = some r := by first | (rw [hji16] at H; exact H) | (simp only [hji16] at H ⊢; exact H)
                 (try rw [hji16] at A15)
                 have hji16w : (IntKind.i64.wrap (x17_1 + 1)) = ji16 := (i64_w _).trans hji16
                 by_cases c17 : 0 ≤ (ji16)
                 ·rw [if_pos c17] at H
                  have c17b0 := eq_true c17
                  have c17b1 : decide (0 ≤ (ji16)) = true := decide_eq_true c17
                  clear c17
                  by_cases c18 : (ji16) ≤ ((rd_L12 y103 x27_2).length : Int)
                  ·rw [if_pos c18] at H
                   have c18b0 := eq_true c18
                   have c18b1 : decide ((ji16) ≤ ((rd_L12 y103 x27_2).length : Int)) = true := decide_eq_true c18
                   clear c18
                   by_cases c19 : t109.length + ((rd_L12 y103 x27_2).drop ((ji16) : Int).toNat).length < 17592186044416
                   ·rw [if_pos c19] at H
                    have LMc19 := Aside0.mk c19
                    clear c19
                    obtain ⟨y113, hy113⟩ : ∃ y_ : List Int, y_ = (t109 ++ ((rd_L12 y103 x27_2).drop ((ji16) : Int).toNat)) := ⟨_, rfl⟩
                    replace H : (if x7_2.length < 5864062014805 then (branch_determinant.l1 k2 l0 x3_1 x4_1 x17_1 (rd (rd_L12 l0 0) x17_1) (x7_2 ++ [y113]) (rd_L12 l0 0) ((rd_L12 l0 0).length : Int) x17_1 y103 (y103.length : Int) (wrap64 (x27_2 + 1))) else (none)) = some r := by first | (rw [hy113]; with_reducible exact H) | (have H2_ := (Option.bind_some _ _).symm.trans H; rw [hy113]; with_reducible exact H2_) | (have H2_ := (Option.bind_some _ _).symm.trans H; with_reducible exact H2_) | with_reducible exact H | (rw [hy113]; exact H) | exact H
                    have Ny113 := Aside0.mk hy113
                    clear hy113
                    by_cases c20 : x7_2.length < 5864062014805
                    ·rw [if_pos c20] at H
                     have LMc20 := Aside0.mk c20
                     clear c20
                     obtain ⟨y116, hy116⟩ : ∃ y_ : List (List Int), y_ = (x7_2 ++ [y113]) := ⟨_, rfl⟩
                     replace H : (branch_determinant.l1 k2 l0 x3_1 x4_1 x17_1 (rd (rd_L12 l0 0) x17_1) y116 (rd_L12 l0 0) ((rd_L12 l0 0).length : Int) x17_1 y103 (y103.length : Int) (wrap64 (x27_2 + 1))) = some r := by first | (rw [hy116]; with_reducible exact H) | (have H2_ := (Option.bind_some _ _).symm.trans H; rw [hy116]; with_reducible exact H2_) | (have H2_ := (Option.bind_some _ _).symm.trans H; with_reducible exact H2_) | with_reducible exact H | (rw [hy116]; exact H) | exact H
                     have Ny116 := Aside0.mk hy116
                     clear hy116
                     have H' := Aside0.mk H
                     clear H
                     have p107 : 0 ≤ (x27_2 : Int) := of_decide_eq_true (by first | (with_reducible assumption) | assumption)
                     have q107 : x27_2 < (y103.length : Int) := of_decide_eq_true (by first | (with_reducible assumption) | assumption)
                     obtain ⟨ad107, A107_0, c107_0, e107, hx107_0, hl107_0, hi107_0⟩ := at_L12 HR106.out x27_2 p107 q107
                     cases e107
                     replace hx107_0 := (HB.out.cell (World.block_lt_of_cell? w _ hx107_0)).trans hx107_0
                     have HR107_0 := Aside0.mk hi107_0
                     have HC107_0 := Aside0.mk hl107_0
                     clear hi107_0 hl107_0
                     replace p107 := eq_true p107
                     replace q107 := eq_true q107
                     try go_wp2
                     have n0_ := Aside0.mk (Kd.S_drew HO_7.out)
                     have n1_ := Aside0.mk (below_drew1 HB.out)
                     clear HO_7
                     clear HB
                     have HO_7 := n0_
                     have HB := n1_
                     clear n0_ n1_
                     obtain ⟨i022, hi022, _, hsz22, _⟩ := info_parts info3
                     obtain ⟨hcut22, hA22, hC22⟩ := print_take_of (P := Try.prog) (Value.int .i64) 0 28 3 .i64 Try.underlying28 hi022 hsz22 A107_0 c107_0 (rd_L12 y103 x27_2) x17_1 (of_decide_eq_true (by first | (with_reducible assumption) | assumption)) (of_decide_eq_true (by first | (with_reducible assumption) | assumption)) HC107_0.out
                     have HR108 := Aside0.mk (Kd.C_of_reads (h1 := fun _ => rfl) (hA22 _ (Kd.reads_of_C HR107_0.out)))
                     have HC108 := Aside0.mk hC22
                     clear hA22 hC22 hi022 hsz22
                     obtain ⟨i023, hi023, _, hsz23, _⟩ := info_parts info3
                     obtain ⟨A23, hcut23, hA23, hC23⟩ := print_drop_of (P := Try.prog) (Value.int .i64) 0 28 3 .i64 Try.underlying28 hi023 hsz23 A107_0 c107_0 (rd_L12 y103 x27_2) (ji16) (of_decide_eq_true (by first | (with_reducible assumption) | assumption)) (of_decide_eq_true (by first | (with_reducible assumption) | assumption)) HC107_0.out
                     have HR112 := Aside0.mk (Kd.C_of_reads (h1 := fun _ => rfl) (hA23 _ (Kd.reads_of_C HR107_0.out)))
                     have HC112 := Aside0.mk hC23
                     clear hA23 hC23 hi023 hsz23
                     refine start_ (n := 13) (S := fun w' => True) (ds := []) #[false, false, false, false, false, false, false, false, false, false, false, false, false] (by kernel_rfl) rfl rfl trivial (fun hHeld => ?_); refine with_tabW branch_determinant.tab12 branch_determinant.bits12 (fun HT_ HW_ => ?_)
                     generalize wr.drew = w21 at HO_7 HB HR108 HR112 hHeld ⊢
                     refine pure_ (i := 0) (N := some 31) (v := ?_) (a' := ?_) #[true, false, false, false, false, false, false, false, false, false, false, false, false] rfl rfl (any_of HT_.out (by kernel_rfl)) (fun _ _ _ h => h) (Or.inl ⟨by rfl, ?_⟩) ?_ ?_
                     rotate_left
                     ·intro w'
                      go_simp
                      with_reducible rfl
                     rotate_left
                     ·simp only [Act.put, List.setIfInBounds_toArray, List.set_cons_zero, List.set_cons_succ, i64_w, i32_w]
                      rfl
                     refine pure_ (i := 1) (N := some 32) (v := ?_) (a' := ?_) #[true, true, false, false, false, false, false, false, false, false, false, false, false] rfl rfl (any_of HT_.out (by kernel_rfl)) (fun _ _ _ h => h) (Or.inl ⟨by rfl, ?_⟩) ?_ ?_
                     rotate_left
                     ·intro w'
                      go_simp
                      with_reducible rfl
                     rotate_left
                     ·simp only [Act.put, List.setIfInBounds_toArray, List.set_cons_zero, List.set_cons_succ, i64_w, i32_w]
                      rfl
                     refine pure_ (i := 2) (N := some 33) (v := ?_) (a' := ?_) #[true, true, true, false, false, false, false, false, false, false, false, false, false] rfl rfl (any_of HT_.out (by kernel_rfl)) (fun _ _ _ h => h) (Or.inl ⟨by rfl, ?_⟩) ?_ ?_
                     rotate_left
                     ·intro w'
                      go_simp
                      with_reducible rfl
                     rotate_left
                     ·simp only [Act.put, List.setIfInBounds_toArray, List.set_cons_zero, List.set_cons_succ, i64_w, i32_w]
                      rfl
                     refine pure_ (i := 3) (N := some 34) (v := ?_) (a' := ?_) #[true, true, true, true, false, false, false, false, false, false, false, false, false] rfl rfl (any_of HT_.out (by kernel_rfl)) (fun _ _ _ h => h) (Or.inl ⟨by rfl, ?_⟩) ?_ ?_
                     rotate_left
                     ·intro w'
                      go_simp
                      with_reducible rfl
                     rotate_left
                     ·simp only [Act.put, List.setIfInBounds_toArray, List.set_cons_zero, List.set_cons_succ, i64_w, i32_w]
                      rfl
                     refine pure_ (i := 5) (N := some 36) (v := ?_) (a' := ?_) #[true, true, true, true, false, true, false, false, false, false, false, false, false] rfl rfl (any_of HT_.out (by kernel_rfl)) (fun _ _ _ h => h) (Or.inl ⟨by rfl, ?_⟩) ?_ ?_
                     rotate_left
                     ·intro w'
                      go_simp
                      with_reducible rfl
                     rotate_left
                     ·simp only [Act.put, List.setIfInBounds_toArray, List.set_cons_zero, List.set_cons_succ, i64_w, i32_w]
                      rfl
                     refine pure_ (i := 6) (N := some 37) (v := ?_) (a' := ?_) #[true, true, true, true, false, true, true, false, false, false, false, false, false] rfl rfl (any_of HT_.out (by kernel_rfl)) (fun _ _ _ h => h) (Or.inl ⟨by rfl, ?_⟩) ?_ ?_
                     rotate_left
                     ·intro w'
                      go_simp
                      with_reducible rfl
                     rotate_left
                     ·simp only [Act.put, List.setIfInBounds_toArray, List.set_cons_zero, List.set_cons_succ, i64_w, i32_w]
                      rfl
                     refine pure_ (i := 7) (N := some 38) (v := ?_) (a' := ?_) #[true, true, true, true, false, true, true, true, false, false, false, false, false] rfl rfl (any_of HT_.out (by kernel_rfl)) (fun _ _ _ h => h) (Or.inl ⟨by rfl, ?_⟩) ?_ ?_
                     rotate_left
                     ·intro w'
                      go_simp
                      with_reducible rfl
                     rotate_left
                     ·simp only [Act.put, List.setIfInBounds_toArray, List.set_cons_zero, List.set_cons_succ, i64_w, i32_w]
                      rfl
                     refine pure_ (i := 8) (N := some 39) (v := ?_) (a' := ?_) #[true, true, true, true, false, true, true, true, true, false, false, false, false] rfl rfl (any_of HT_.out (by kernel_rfl)) (fun _ _ _ h => h) (Or.inl ⟨by rfl, ?_⟩) ?_ ?_
                     rotate_left
                     ·intro w'
                      go_simp
                      with_reducible rfl
                     rotate_left
                     ·simp only [Act.put, List.setIfInBounds_toArray, List.set_cons_zero, List.set_cons_succ, i64_w, i32_w]
                      rfl
                     refine one_ (i := 4) (N := some 35) #[true, true, true, true, true, true, true, true, true, false, false, false, false] rfl rfl (one_of HT_.out (by kernel_rfl)) (by decide) (fun K hK => ?_)
                     refine goes_ Try.func67 (by kernel_rfl) rfl #[.slice A107_0 ((rd_L12 y103 x27_2).take (x17_1 : Int).toNat).length c107_0] (by rfl) rfl rfl (by (try simp only [List.map_toArray, List.map_cons, List.map_nil]); first | done | (rw [show ((rd_L12 y103 x27_2).take (x17_1 : Int).toNat).length = x17_1.toNat from (by rw [List.length_take]; have h_ : (x17_1 : Int) ≤ ((rd_L12 y103 x27_2).length : Int) := of_decide_eq_true (by first | (with_reducible assumption) | assumption); omega)] <;> rfl) | rfl | (simp only [List.length_drop, List.length_take]; rfl)) ?_
                     with_reducible refine (slices_Clone.calls _ _ ((rd_L12 y103 x27_2).take (x17_1 : Int).toNat) t109 _ ?side1 ?side2 A15.out).mono ?_
                     (case side1 => repeat (first | exact (Kd.C_below HR108.out HB.out) | (with_reducible refine Kd.C_alloc ?_ _) | (with_reducible refine Kd.C_drewN ?_ _) | (with_reducible refine Kd.C_drew ?_)))
                     (case side2 => exact HC108.out)
                     rintro e w24 ⟨v110, rfl, ho0, hb⟩
                     refine ⟨_, rfl, ?_⟩
                     have n0_ := Aside0.mk (Kd.S_elder' (by (with_reducible repeat (first | apply Kd.S_alloc | apply Kd.S_drewN | apply Kd.S_drew)); exact HO_7.out) (Kd.R_base ho0) hb)
                     have n1_ := Aside0.mk (Kd.R_lower ho0 (below_size (by repeat (first | (with_reducible first | exact HB.out | apply below_alloc | apply pw_below_drewN | apply below_drew1) | exact HB.out))))
                     have n2_ := Aside0.mk (below_step (by repeat (first | (with_reducible first | exact HB.out | apply below_alloc | apply pw_below_drewN | apply below_drew1) | exact HB.out)) hb)
                     clear HO_7
                     clear HB
                     have HO_7 := n0_
                     have HO111 := n1_
                     have HB := n2_
                     clear n0_ n1_ n2_
                     (try clear hb)
                     (try clear hb2)
                     (try clear hk)
                     (try clear hi)
                     (try clear ho0)
                     refine hK.out _ _ trivial (fun hHeld => ?_)
                     clear hK K
                     refine norm_ (a' := ?_) ?_ ?_
                     rotate_left
                     ·show Act.put _ (some 35) _ = _
                      simp only [Act.put, List.setIfInBounds_toArray, List.set_cons_zero, List.set_cons_succ, i64_w, i32_w]
                      rfl
                     refine one_ (i := 9) (N := some 40) #[true, true, true, true, true, true, true, true, true, true, false, false, false] rfl rfl (one_of HT_.out (by kernel_rfl)) (by decide) (fun K hK => ?_)
                     refine Kd.R_append_rows_step (Kd.int .i64) (w0 := w) w.heap.size (by rfl) (.tmp 35) (.tmp 39) 28 3 (.int .i64 0) 8 rfl Try.underlying28 info3 rfl (by decide) (by omega) v110 t109 ((rd_L12 y103 x27_2).drop ((ji16) : Int).toNat) _ _ _ (fun _ => True) (fun _ => False) rfl rfl ?aO ?aR (fun _ _ h => h) (fun _ h => h.elim) ?aF ?aB ?aS ?aL ?_
                     (case aR => first | (have hq_ := (Kd.C_below HR112.out HB.out); rw [show ((rd_L12 y103 x27_2).drop ((ji16) : Int).toNat).length = ((rd_L12 y103 x27_2).length - (ji16).toNat) from List.length_drop] at hq_; exact hq_) | (rw [← show ((rd_L12 y103 x27_2).drop ((ji16) : Int).toNat).length = ((rd_L12 y103 x27_2).length - (ji16).toNat) from List.length_drop]; repeat (first | exact (Kd.C_below HR112.out HB.out) | (with_reducible refine Kd.C_alloc ?_ _) | (with_reducible refine Kd.C_drewN ?_ _) | (with_reducible refine Kd.C_drew ?_))) | (repeat (first | exact (Kd.C_below HR112.out HB.out) | (with_reducible refine Kd.C_alloc ?_ _) | (with_reducible refine Kd.C_drewN ?_ _) | (with_reducible refine Kd.C_drew ?_))))
                     (case aB => exact (by repeat (first | (with_reducible first | exact HB.out | apply below_alloc | apply pw_below_drewN | apply below_drew1) | exact HB.out)))
                     (case aF => exact (fun _ _ => trivial))
                     (case aO => exact (by (with_reducible repeat (first | apply Kd.R_alloc | apply Kd.R_drewN | apply Kd.R_drew)); exact HO111.out))
                     (case aS => exact (below_size (by repeat (first | (with_reducible first | exact HB.out | apply below_alloc | apply pw_below_drewN | apply below_drew1) | exact HB.out))))
                     (case aL => have := LMc19.out; have hlx_ := (show ((rd_L12 y103 x27_2).drop ((ji16) : Int).toNat).length = ((rd_L12 y103 x27_2).length - (ji16).toNat) from List.length_drop); omega)
                     intro v114 w25 ho hb hg hat
                     rw [← Ny113.out] at ho
                     have n0_ := Aside0.mk (Kd.S_after (ok := (fun _ => True)) (by (with_reducible repeat (first | apply Kd.S_alloc | apply Kd.S_drewN | apply Kd.S_drew)); exact HO_7.out) hg hat)
                     have n1_ := Aside0.mk (hb)
                     have n2_ := Aside0.mk (ho)
                     clear HO_7
                     clear HB
                     clear HO111
                     have HO_7 := n0_
                     have HB := n1_
                     have HO115 := n2_
                     clear n0_ n1_ n2_
                     clear ho hb hg hat
                     obtain ⟨Ao27, co27, eo27⟩ := Kd.R_slice HO115.out
                     (first | subst eo27 | (injection eo27 with f1_ f2_ f3_; have f4_ := f1_.symm; have f5_ := f3_.symm; clear f1_ f2_ f3_; subst f4_; subst f5_))
                     refine hK.out _ _ trivial (fun hHeld => ?_)
                     clear hK K
                     refine norm_ (a' := ?_) ?_ ?_
                     rotate_left
                     ·show Act.put _ (some 40) _ = _
                      simp only [Act.put, List.setIfInBounds_toArray, List.set_cons_zero, List.set_cons_succ, i64_w, i32_w]
                      rfl
                     refine one_ (i := 10) (N := some 41) #[true, true, true, true, true, true, true, true, true, true, true, false, false] rfl rfl (one_of HT_.out (by kernel_rfl)) (by decide) (fun K hK => ?_)
                     refine value_ (w1 := ?_) (v := ?_) (by rfl) rfl ?_ ?_
                     rotate_left 2
                     ·go_simp
                      constructor
                      ·rfl
                      ·rfl
                     refine hK.out _ _ trivial (fun hHeld => ?_)
                     clear hK K
                     refine norm_ (a' := ?_) ?_ ?_
                     rotate_left
                     ·show Act.put _ (some 41) _ = _
                      simp only [Act.put, List.setIfInBounds_toArray, List.set_cons_zero, List.set_cons_succ, i64_w, i32_w]
                      rfl
                     refine one_ (i := 11) (N := some 42) #[true, true, true, true, true, true, true, true, true, true, true, true, false] rfl rfl (one_of HT_.out (by kernel_rfl)) (by decide) (fun K hK => ?_)
                     refine Kd.S_append_step (Kd.slice 3 (Kd.int .i64)) (w0 := w) w.heap.size (by rfl) (.tmp 31) (.tmp 41) 27 28 (.slice none 0 0) 24 rfl Try.underlying27 info28 rfl (by decide) (by omega) u7 x7_2 y113 [.slice Ao27 y113.length co27] (fun _ => True) (fun k_ => some k_ = (.slice Ao27 y113.length co27 : Value).ownBlock) rfl rfl ?aP (fun k_ hk_ => ((Kd.R_mono (ok' := fun k_ => ((fun _ => True)) k_ ∧ some k_ ≠ (u7 : Value).ownBlock) (Kd.R_apart' (HO115.out) (Kd.S_typed HO_7.out) (by decide)) (fun k_ hk => ⟨trivial, hk.2⟩))).1 k_ hk_.symm) ?aF ?aO ?aB ?aS ?aL ?_
                     (case aP => exact Kd.M_row (Kd.R_mono (Kd.R_tight rfl (Kd.R_mono (ok' := fun k_ => ((fun _ => True)) k_ ∧ some k_ ≠ (u7 : Value).ownBlock) (Kd.R_apart' (HO115.out) (Kd.S_typed HO_7.out) (by decide)) (fun k_ hk => ⟨trivial, hk.2⟩))) (fun _ h_ => h_)))
                     (case aB => exact (by repeat (first | (with_reducible first | exact HB.out | apply below_alloc | apply pw_below_drewN | apply below_drew1) | exact HB.out)))
                     (case aF => exact (fun _ _ => trivial))
                     (case aO => exact (by (with_reducible repeat (first | apply Kd.S_alloc | apply Kd.S_drewN | apply Kd.S_drew)); exact Kd.S_mono HO_7.out (fun k_ hk => ⟨trivial, fun e_ => hk.2 e_⟩)))
                     (case aS => exact (below_size (by repeat (first | (with_reducible first | exact HB.out | apply below_alloc | apply pw_below_drewN | apply below_drew1) | exact HB.out))))
                     (case aL => have := LMc20.out; omega)
                     intro v117 w26 ho hb hg hat
                     rw [← Ny116.out] at ho
                     have n0_ := Aside0.mk (hb)
                     have n1_ := Aside0.mk (ho)
                     clear HB
                     clear HO_7
                     clear HO115
                     have HB := n0_
                     have HO118 := n1_
                     clear n0_ n1_
                     clear ho hb hg hat
                     refine hK.out _ _ trivial (fun hHeld => ?_)
                     clear hK K
                     refine norm_ (a' := ?_) ?_ ?_
                     rotate_left
                     ·show Act.put _ (some 42) _ = _
                      simp only [Act.put, List.setIfInBounds_toArray, List.set_cons_zero, List.set_cons_succ, i64_w, i32_w]
                      rfl
                     refine pure_ (i := 12) (N := some 7) (v := ?_) (a' := ?_) #[true, true, true, true, true, true, true, true, true, true, true, true, true] rfl rfl (any_of HT_.out (by kernel_rfl)) (fun _ _ _ h => h) (Or.inl ⟨by rfl, ?_⟩) ?_ ?_
                     rotate_left
                     ·intro w'
                      go_simp
                      with_reducible rfl
                     rotate_left
                     ·simp only [Act.put, List.setIfInBounds_toArray, List.set_cons_zero, List.set_cons_succ, i64_w, i32_w]
                      rfl
                     refine done_ (done_of HT_.out (by kernel_rfl)) ?_
                     try go_wp2
                     go_roundg k2
                     case measure => have := HK1.out; have := HK2.out; omega
                     case rel => exact ⟨(y116), (wrap64 (x27_2 + 1)), (by first | rfl | (simp; done) | (simp [*]; done)), H', ⟨by have := HK1.out; have := HK2.out; omega⟩, ⟨by (with_reducible repeat (first | apply Kd.S_alloc | apply Kd.S_drewN | apply Kd.S_drew)); exact HO118.out⟩, ⟨by repeat (first | (with_reducible first | exact HB.out | apply below_alloc | apply pw_below_drewN | apply below_drew1) | exact HB.out)⟩⟩
                    ·rw [if_neg c20] at H
                     exact absurd H (by simp)
                   ·rw [if_neg c19] at H
                    exact absurd H (by simp)
                  ·rw [if_neg c18] at H
                   exact absurd H (by simp)
                 ·rw [if_neg c17] at H
                  exact absurd H (by simp)
                ·rw [if_neg c14] at H
                 exact absurd H (by simp)
               ·rw [if_neg c13] at H
                exact absurd H (by simp)
              ·rw [if_neg c12] at H
               exact absurd H (by simp)
             ·rw [if_neg c11] at H
              exact absurd H (by simp)
            ·rw [if_neg c10] at H
             have c10b0 : decide (x27_2 < (y103.length : Int)) = false := decide_eq_false c10
             clear c10
             replace H := Option.bind_eq_some_iff.mp H
             obtain ⟨t119, A280, H⟩ := H
             replace H : (branch_determinant.l0 k2 l0 (wrap64 (x3_1 + (wrap64 ((wrap64 (x4_1 * (rd (rd_L12 l0 0) x17_1))) * t119)))) (wrap64 (-x4_1)) (rd_L12 l0 0) ((rd_L12 l0 0).length : Int) (wrap64 (x17_1 + 1))) = some r := H
             have A28 := Aside0.mk A280
             clear A280
             have H' := Aside0.mk H
             clear H
             obtain ⟨Ao29, co29, eo29⟩ := Kd.S_slice HO_7.out
             subst eo29
             go_wp2_with (first | ((with_reducible refine gate_callee (f := 45) rfl ?_); refine goesL_ (some 49) rfl rfl Try.func45 (by kernel_rfl) rfl #[.slice Ao29 x7_2.length co29] rfl (by (try simp only [List.map_toArray, List.map_cons, List.map_nil]); first | done | rfl | (simp only [List.length_drop, List.length_take]; rfl)) ?_; (with_reducible refine (ih k2 (by have := HK1.out; have := HK2.out; omega) _ _ x7_2 t119 _ ?side1 ?side2 A28.out).mono ?_); (case side1 => repeat (first | exact (Kd.S_reads' HO_7.out).2.2 | (with_reducible refine Kd.C_alloc ?_ _) | (with_reducible refine Kd.C_drewN ?_ _) | (with_reducible refine Kd.C_drew ?_))); (case side2 => exact (Kd.S_reads' HO_7.out).2.1); rintro e w30 ⟨rfl, hb⟩; refine ⟨_, rfl, ?_⟩; have n0_ := Aside0.mk (Kd.S_below (by (with_reducible repeat (first | apply Kd.S_alloc | apply Kd.S_drewN | apply Kd.S_drew)); exact HO_7.out) hb); have n1_ := Aside0.mk (below_step (by repeat (first | (with_reducible first | exact HB.out | apply below_alloc | apply pw_below_drewN | apply below_drew1) | exact HB.out)) hb); clear HO_7; clear HB; have HO_7 := n0_; have HB := n1_; clear n0_ n1_; (try clear hb); (try clear hb2); (try clear hk); (try clear hi)))
             go_roundg k2
             case measure => have := HK1.out; have := HK2.out; omega
             case rel => exact ⟨(wrap64 (x3_1 + (wrap64 ((wrap64 (x4_1 * (rd (rd_L12 l0 0) x17_1))) * t119)))), (wrap64 (-x4_1)), (wrap64 (x17_1 + 1)), (by first | rfl | (simp; done) | (simp [*]; done)), (by first | rfl | (simp; done) | (simp [*]; done)), (by first | rfl | (simp; done) | (simp [*]; done)), H', ⟨by have := HK1.out; have := HK2.out; omega⟩, ⟨by repeat (first | (with_reducible first | exact HB.out | apply below_alloc | apply pw_below_drewN | apply below_drew1) | exact HB.out)⟩⟩
         ·rw [if_neg c8] at H
          exact absurd H (by simp)
       ·rw [if_neg c6] at H
        exact absurd H (by simp)
      ·rw [if_neg c5] at H
       exact absurd H (by simp)
     ·rw [if_neg c4] at H
      have c4b0 : decide (x17_1 < ((rd_L12 l0 0).length : Int)) = false := decide_eq_false c4
      clear c4
      obtain rfl := Option.some.inj H
      go_wp2
      go_ret
      exact ⟨by first | rfl | (simp [errW_none, errW_some] <;> rfl) | (simp [*, errW_none, errW_some] <;> rfl), by repeat (first | (with_reducible first | exact HB.out | apply below_alloc | apply pw_below_drewN | apply below_drew1) | exact HB.out)⟩
  ·rw [if_neg c3] at H
   exact absurd H (by simp)
def slices_IndexFunc_int_int.l0 : Nat → List Int → (Int → Option Bool) → Int → Int → Option (Int)
  | 0, _, _, _, _ => none
  | k + 1, x0, x1, x7, x8 => if x8 < x7 then (if 0 ≤ x8 then (if x8 < (x0.length : Int) then ((x1 (rd x0 x8)).bind fun t121 => (if t121 = true then (some x8) else (slices_IndexFunc_int_int.l0 k x0 x1 x7 (wrap64 (x8 + 1))))) else (none)) else (none)) else (some (-1))
def slices_IndexFunc_int_int.f (k : Nat) (l0 : List Int) (a1 : (Int → Option Bool)) : Option (Int) := slices_IndexFunc_int_int.l0 k l0 a1 (l0.length : Int) 0
theorem slices_IndexFunc_int_int.mono_l : ∀ k, (∀ y0 y1 y2 y3, LeO (slices_IndexFunc_int_int.l0 k y0 y1 y2 y3) (slices_IndexFunc_int_int.l0 (k + 1) y0 y1 y2 y3))
  | 0 => fun _ _ _ _ r h => by simp [slices_IndexFunc_int_int.l0] at h
  | k + 1 => by
    have ih0 := slices_IndexFunc_int_int.mono_l k
    · intro y0 y1 y2 y3
      unfold slices_IndexFunc_int_int.l0
      repeat' first
      | (with_reducible exact ih0 _ _ _ _)
      | (with_reducible exact LeO.refl _)
      | (with_reducible exact LeO.none _)
      | (with_reducible refine LeO.ite ?_ ?_)
      | (with_reducible refine LeO.bind ?_ (fun _ => ?_))
      | exact ih0 _ _ _ _
      | exact LeO.none _
      | refine LeO.ite ?_ ?_
      | refine LeO.bind ?_ (fun _ => ?_)
theorem slices_IndexFunc_int_int.mono : ∀ a0 a1 k, LeO (slices_IndexFunc_int_int.f k a0 a1) (slices_IndexFunc_int_int.f (k + 1) a0 a1) := by
  intro a0 a1 k
  have ih0 := slices_IndexFunc_int_int.mono_l k
  unfold slices_IndexFunc_int_int.f
  repeat' first
      | (with_reducible exact ih0 _ _ _ _)
      | (with_reducible exact LeO.refl _)
      | (with_reducible exact LeO.none _)
      | (with_reducible refine LeO.ite ?_ ?_)
      | (with_reducible refine LeO.bind ?_ (fun _ => ?_))
      | exact ih0 _ _ _ _
      | exact LeO.none _
      | refine LeO.ite ?_ ?_
      | refine LeO.bind ?_ (fun _ => ?_)
set_option maxHeartbeats 8000000 in
set_option maxRecDepth 100000 in
theorem slices_IndexFunc_int_int.calls (k : Nat) (A0 : Option Addr) (c0 : Nat) (l0 : List Int) (vf1 : Value) (a1 : (Int → Option Bool)) (r : Int) (w : World) (hr0 : Kd.C (Kd.int .i64) w A0 l0.length l0) (hc0 : l0.length ≤ c0) (hF1 : IsFn Try.prog w vf1 a1) (h : slices_IndexFunc_int_int.f k l0 a1 = some r) :
  Calls Try.prog 81 #[.slice A0 l0.length c0, vf1] w fun e w' => e = .returned (.int .i64 r) ∧ Below w.heap.size w w' := by
 have HR0 := Aside0.mk hr0
 have HC0 := Aside0.mk hc0
 clear hr0 hc0
 have HF1 := Aside0.mk hF1
 clear hF1
 have HB := Aside0.mk (Below.refl w.heap.size w)
 have H : (slices_IndexFunc_int_int.l0 k l0 a1 (l0.length : Int) 0) = some r := h
 clear h
 have H' := Aside0.mk H
 clear H
 go_enter Try.func81, Try.ntmps81
 go_wp2
 go_loopg [8] k (fun kq v8 w' => ∃ (x8_1 : Int), v8 = .int .i64 x8_1 ∧ Aside0 (slices_IndexFunc_int_int.l0 kq l0 a1 (l0.length : Int) x8_1 = some r) ∧ Aside0 (kq ≤ k) ∧ Aside0 (Below w.heap.size w w'))
 case atStart => exact ⟨(0), (by first | rfl | (simp; done) | (simp [*]; done)), H', ⟨Nat.le_refl _⟩, ⟨by repeat (first | (with_reducible first | exact HB.out | apply below_alloc | apply pw_below_drewN | apply below_drew1) | exact HB.out)⟩⟩
 case round =>
  clear H'
  try clear p2
  obtain ⟨x8_1, rfl, HA, HK1, HB⟩ := hrel
  cases gk with
  | zero => exact absurd HA.out (by simp [slices_IndexFunc_int_int.l0])
  | succ k1 =>
   have H := HA.out
   clear HA
   simp only [slices_IndexFunc_int_int.l0] at H
   by_cases c3 : x8_1 < (l0.length : Int)
   ·rw [if_pos c3] at H
    have c3b0 : decide (x8_1 < (l0.length : Int)) = true := decide_eq_true c3
    clear c3
    by_cases c4 : 0 ≤ x8_1
    ·rw [if_pos c4] at H
     have c4b0 : decide (0 ≤ x8_1) = true := decide_eq_true c4
     clear c4
     by_cases c5 : x8_1 < (l0.length : Int)
     ·rw [if_pos c5] at H
      have c5b0 : decide (x8_1 < (l0.length : Int)) = true := decide_eq_true c5
      clear c5
      replace H := Option.bind_eq_some_iff.mp H
      obtain ⟨t121, A60, H⟩ := H
      replace H : (if t121 = true then (some x8_1) else (slices_IndexFunc_int_int.l0 k1 l0 a1 (l0.length : Int) (wrap64 (x8_1 + 1)))) = some r := H
      have A6 := Aside0.mk A60
      clear A60
      by_cases c7 : t121 = true
      ·subst c7
       have H1 : (some x8_1) = some r := by rw [if_pos rfl] at H; exact H
       clear H
       have H := H1
       clear H1
       obtain rfl := Option.some.inj H
       have p120 : 0 ≤ (x8_1 : Int) := of_decide_eq_true (by first | (with_reducible assumption) | assumption)
       have q120 : x8_1 < (l0.length : Int) := of_decide_eq_true (by first | (with_reducible assumption) | assumption)
       obtain ⟨ad120, e120, hx120_0⟩ := Kd.at_int HR0.out x8_1 p120 q120
       cases e120
       replace hx120_0 := (HB.out.cell (World.block_lt_of_cell? w _ hx120_0)).trans hx120_0
       replace p120 := eq_true p120
       replace q120 := eq_true q120
       go_wp2_with (first | ((with_reducible refine gate_dst (N := 16) rfl ?_); refine goesF_ (some 16) rfl rfl HF1.out rfl rfl (i := (rd l0 x8_1)) rfl ?sideB A6.out ?_; (case sideB => exact by repeat (first | (with_reducible first | exact HB.out | apply below_alloc | apply pw_below_drewN | apply below_drew1) | exact HB.out)); intro w8 hb; have n0_ := Aside0.mk (below_step (by repeat (first | (with_reducible first | exact HB.out | apply below_alloc | apply pw_below_drewN | apply below_drew1) | exact HB.out)) hb); clear HB; have HB := n0_; clear n0_; (try clear hb); (try clear hb2); (try clear hk); (try clear hi)))
       go_ret
       exact ⟨by first | rfl | (simp [errW_none, errW_some] <;> rfl) | (simp [*, errW_none, errW_some] <;> rfl), by repeat (first | (with_reducible first | exact HB.out | apply below_alloc | apply pw_below_drewN | apply below_drew1) | exact HB.out)⟩
      ·replace c7 := Bool.eq_false_iff.mpr c7
       subst c7
       have H1 : (slices_IndexFunc_int_int.l0 k1 l0 a1 (l0.length : Int) (wrap64 (x8_1 + 1))) = some r := by rw [if_neg (show ¬ (false = true) by decide)] at H; exact H
       clear H
       have H := H1
       clear H1
       have H' := Aside0.mk H
       clear H
       have p120 : 0 ≤ (x8_1 : Int) := of_decide_eq_true (by first | (with_reducible assumption) | assumption)
       have q120 : x8_1 < (l0.length : Int) := of_decide_eq_true (by first | (with_reducible assumption) | assumption)
       obtain ⟨ad120, e120, hx120_0⟩ := Kd.at_int HR0.out x8_1 p120 q120
       cases e120
       replace hx120_0 := (HB.out.cell (World.block_lt_of_cell? w _ hx120_0)).trans hx120_0
       replace p120 := eq_true p120
       replace q120 := eq_true q120
       go_wp2_with (first | ((with_reducible refine gate_dst (N := 16) rfl ?_); refine goesF_ (some 16) rfl rfl HF1.out rfl rfl (i := (rd l0 x8_1)) rfl ?sideB A6.out ?_; (case sideB => exact by repeat (first | (with_reducible first | exact HB.out | apply below_alloc | apply pw_below_drewN | apply below_drew1) | exact HB.out)); intro w9 hb; have n0_ := Aside0.mk (below_step (by repeat (first | (with_reducible first | exact HB.out | apply below_alloc | apply pw_below_drewN | apply below_drew1) | exact HB.out)) hb); clear HB; have HB := n0_; clear n0_; (try clear hb); (try clear hb2); (try clear hk); (try clear hi)))
       go_roundg k1
       case measure => have := HK1.out; omega
       case rel => exact ⟨(wrap64 (x8_1 + 1)), (by first | rfl | (simp; done) | (simp [*]; done)), H', ⟨by have := HK1.out; omega⟩, ⟨by repeat (first | (with_reducible first | exact HB.out | apply below_alloc | apply pw_below_drewN | apply below_drew1) | exact HB.out)⟩⟩
     ·rw [if_neg c5] at H
      exact absurd H (by simp)
    ·rw [if_neg c4] at H
     exact absurd H (by simp)
   ·rw [if_neg c3] at H
    have c3b0 : decide (x8_1 < (l0.length : Int)) = false := decide_eq_false c3
    clear c3
    obtain rfl := Option.some.inj H
    go_wp2
    go_ret
    exact ⟨by first | rfl | (simp [errW_none, errW_some] <;> rfl) | (simp [*, errW_none, errW_some] <;> rfl), by repeat (first | (with_reducible first | exact HB.out | apply below_alloc | apply pw_below_drewN | apply below_drew1) | exact HB.out)⟩
def slices_ContainsFunc_int_int.f (k : Nat) (l0 : List Int) (a1 : (Int → Option Bool)) : Option (Bool) := (slices_IndexFunc_int_int.f k l0 a1).bind fun t122 => (some (decide (t122 ≥ 0)))
theorem slices_ContainsFunc_int_int.mono : ∀ a0 a1 k, LeO (slices_ContainsFunc_int_int.f k a0 a1) (slices_ContainsFunc_int_int.f (k + 1) a0 a1) := by
  intro a0 a1 k
  unfold slices_ContainsFunc_int_int.f
  repeat' first
      | (with_reducible exact slices_IndexFunc_int_int.mono _ _ _)
      | (with_reducible exact LeO.refl _)
      | (with_reducible exact LeO.none _)
      | (with_reducible refine LeO.ite ?_ ?_)
      | (with_reducible refine LeO.bind ?_ (fun _ => ?_))
      | exact slices_IndexFunc_int_int.mono _ _ _
      | exact LeO.none _
      | refine LeO.ite ?_ ?_
      | refine LeO.bind ?_ (fun _ => ?_)
set_option maxHeartbeats 8000000 in
set_option maxRecDepth 100000 in
theorem slices_ContainsFunc_int_int.calls (k : Nat) (A0 : Option Addr) (c0 : Nat) (l0 : List Int) (vf1 : Value) (a1 : (Int → Option Bool)) (r : Bool) (w : World) (hr0 : Kd.C (Kd.int .i64) w A0 l0.length l0) (hc0 : l0.length ≤ c0) (hF1 : IsFn Try.prog w vf1 a1) (h : slices_ContainsFunc_int_int.f k l0 a1 = some r) :
  Calls Try.prog 70 #[.slice A0 l0.length c0, vf1] w fun e w' => e = .returned (.bool r) ∧ Below w.heap.size w w' := by
 have HR0 := Aside0.mk hr0
 have HC0 := Aside0.mk hc0
 clear hr0 hc0
 have HF1 := Aside0.mk hF1
 clear hF1
 have HB := Aside0.mk (Below.refl w.heap.size w)
 have H : ((slices_IndexFunc_int_int.f k l0 a1).bind fun t122 => (some (decide (t122 ≥ 0)))) = some r := h
 clear h
 replace H := Option.bind_eq_some_iff.mp H
 obtain ⟨t122, A30, H⟩ := H
 replace H : (some (decide (t122 ≥ 0))) = some r := H
 have A3 := Aside0.mk A30
 clear A30
 obtain rfl := Option.some.inj H
 go_enter Try.func70, Try.ntmps70
 go_wp2_with (first | ((with_reducible refine gate_callee (f := 81) rfl ?_); refine goesL_ (some 7) rfl rfl Try.func81 (by kernel_rfl) rfl #[.slice A0 l0.length c0, vf1] rfl (by (try simp only [List.map_toArray, List.map_cons, List.map_nil]); first | done | rfl | (simp only [List.length_drop, List.length_take]; rfl)) ?_; (with_reducible refine (slices_IndexFunc_int_int.calls k _ _ l0 vf1 a1 t122 _ ?side1 ?side2 ?side3 A3.out).mono ?_); (case side1 => repeat (first | exact HR0.out | (with_reducible refine Kd.C_alloc ?_ _) | (with_reducible refine Kd.C_drewN ?_ _) | (with_reducible refine Kd.C_drew ?_))); (case side2 => exact HC0.out); (case side3 => exact IsFn.below HF1.out (by repeat (first | (with_reducible first | exact HB.out | apply below_alloc | apply pw_below_drewN | apply below_drew1) | exact HB.out))); rintro e w4 ⟨rfl, hb⟩; refine ⟨_, rfl, ?_⟩; have n0_ := Aside0.mk (below_step (by repeat (first | (with_reducible first | exact HB.out | apply below_alloc | apply pw_below_drewN | apply below_drew1) | exact HB.out)) hb); clear HB; have HB := n0_; clear n0_; (try clear hb); (try clear hb2); (try clear hk); (try clear hi)))
 go_ret
 exact ⟨by first | rfl | (simp [errW_none, errW_some] <;> rfl) | (simp [*, errW_none, errW_some] <;> rfl), by repeat (first | (with_reducible first | exact HB.out | apply below_alloc | apply pw_below_drewN | apply below_drew1) | exact HB.out)⟩
end Go.Proofs.Ytpmadffgdfholaa.B
