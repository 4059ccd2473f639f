/- branch.read: its walk by hand. The map of a town: to each corner the numbers of the streets that lead there. -/
import Derived.Test.YtpmadffgdfholaaDBGrp
import Derived.Test.YtpmadffgdfholaaDBA0
import Derived.WalkSpells
import Derived.Deep.RegionHeld3
import Derived.Deep.AppendLies
import Derived.Deep.DrawnRows
namespace Go.Proofs.Ytpmadffgdfholaa.B
open Go.RowKit Go.MapKept Go.Proofs.YtpmadffgdfholaaW.PrintWords Go.Proofs.YtpmadffgdfholaaW.PrintLast Go.Proofs.YtpmadffgdfholaaW.PrintMore
set_option linter.unusedVariables false
set_option linter.unusedSimpArgs false
attribute [local go_sem ↓] Go.wp_at_zero Go.wp_at_succ

/-- A street that read takes. -/
def wayOk (n : Int) (x : S30) : Bool := !(decide (mn x.f0 x.f1 < 0) || decide (n ≤ mx x.f0 x.f1) || (x.f0 == x.f1) || decide (x.f2 < 0) || decide (1000 < x.f2))
/-- What read answers: 0, 2 or 3. -/
def readB (n : Int) (l : List S30) : Int := if n < 2 ∨ 7 < n then 2 else if 30 < l.length then 3 else if l.all (wayOk n) then 0 else 2
/-- The numbers of the first j streets that lead to b. -/
def toB (l : List S30) (j : Nat) (b : Int) : List Int := ((List.range j).filter fun q : Nat => (rd_T30 l (q : Int)).f1 == b).map (fun q : Nat => (q : Int))
theorem toB_succ (l : List S30) (j : Nat) (b : Int) : toB l (j + 1) b = if (rd_T30 l (j : Int)).f1 = b then toB l j b ++ [(j : Int)] else toB l j b := by
  unfold toB
  rw [List.range_succ, List.filter_append, List.map_append]
  by_cases h : (rd_T30 l (j : Int)).f1 = b <;> simp [h]
theorem toB_zero (l : List S30) (b : Int) : toB l 0 b = [] := rfl
theorem toB_len (l : List S30) (j : Nat) (b : Int) : (toB l j b).length ≤ j := by
  induction j with
  | zero => simp [toB]
  | succ j ih => rw [toB_succ]; split <;> (try simp) <;> omega
theorem all_upto (p : S30 → Bool) (l : List S30) (h : ∀ j : Nat, j < l.length → p (rd_T30 l (j : Int)) = true) : l.all p = true := by
  rw [List.all_eq_true]
  intro x hx
  obtain ⟨j, hj, rfl⟩ := List.getElem_of_mem hx
  have := h j hj
  simpa [rd_T30, List.getD, List.getElem?_eq_getElem hj] using this
theorem not_all (p : S30 → Bool) (l : List S30) (j : Nat) (hj : j < l.length) (h : p (rd_T30 l (j : Int)) = false) : l.all p = false := by
  rw [List.all_eq_false]
  refine ⟨l[j], List.getElem_mem hj, ?_⟩
  simpa [rd_T30, List.getD, List.getElem?_eq_getElem hj] using h

theorem map_event {P : Program} {ops : Array Oper} {rest : List Oper} {o : Oper} {a : Act} {Q : Exit → Act → World → Prop} {W : World} (hgd : o.guard = none) {N : Tmp} (_hd : o.dst = some N)
    (hrun : (execOp a.eval o).run P W = .ok (.value (.map (some W.heap.size))) (W.alloc (.map #[] 0)))
    (h : ∀ m, m = W.heap.size → ∀ w1, w1.heap[m]? = some (.map #[] 0) → Below W.heap.size W w1 → wpList P ops Q rest (a.put o.dst (.map (some m))) w1) : wpList P ops Q (o :: rest) a W :=
  Kd.event_run hgd hrun (h _ rfl _ (blk_new W _) (below_alloc (Below.refl _ _) _))
theorem GrpM.new {w : World} {base m : Nat} (h : w.heap[m]? = some (.map #[] 0)) : GrpM w base m (fun _ => []) :=
  ⟨#[], 0, h, Good.empty 0, by simp, fun _ h => absurd rfl h, by simp⟩
theorem SetM.new {w : World} {m : Nat} (h : w.heap[m]? = some (.map #[] 0)) : SetM w m (fun _ => false) := ⟨#[], 0, h, Good.empty 0, by simp, by simp⟩
theorem GrpM.self {w : World} {base m : Nat} {g : Int → List Int} (_ : GrpM w base m g) : Below w.heap.size w w := Below.refl _ _
theorem toB_step (l : List S30) (i : Nat) (b : Int) (hx : (rd_T30 l (i : Int)).f1 = b) : toB l (i + 1) = (fun j => if j = b then toB l i b ++ [(i : Int)] else toB l i j) := by
  funext j
  rw [toB_succ, hx]
  by_cases h : b = j
  · subst h; simp
  · rw [if_neg h, if_neg (fun h2 => h h2.symm)]
theorem val_succ (i : Nat) (h : i < 1000000) : Value.int .i64 (wrap64 ((i : Int) + 1)) = Value.int .i64 ((i + 1 : Nat) : Int) := by rw [show wrap64 ((i : Int) + 1) = ((i + 1 : Nat) : Int) from by unfold wrap64; omega]
theorem step_lookup {P : Program} {ops : Array Oper} {o : Oper} {a : Act} {w : World} {K : Act → World → Prop} {Q : Exit → Act → World → Prop} {E : Prop} (hgd : o.guard = none) (m x : Operand) (t : TypeId)
    (ho : o.op = Op.lookup t m x false) {mv kv v : Value} (hm : a.eval m = mv) (hx : a.eval x = kv) (hrun : (Instr.lookup t mv kv false).run P w = .ok v w) (h : K (a.put o.dst v) w) :
    if Region.wanted o (yielded ops a.tmps) = true then Oper.wp P o a w K Q else E := by
  have hw : Region.wanted o (yielded ops a.tmps) = true := by simp [Region.wanted, hgd]
  rw [if_pos hw]
  unfold Oper.wp
  simp [execOp, ho, hm, hx, hrun, Result.andThen]
  exact h
theorem grown_then {w w1 w2 : World} {row : Option Nat} (h : Below w.heap.size w w1) (hg : w1.grownBy w2 row) : w.grownBy w2 row :=
  ⟨hg.os.trans h.os, hg.tape.trans h.tape, hg.output.trans h.output, Nat.le_trans h.size hg.size, fun k hk hne => (hg.block k (Nat.lt_of_lt_of_le hk h.size) hne).trans (h.block k hk)⟩

set_option maxHeartbeats 8000000 in
set_option maxRecDepth 100000 in
theorem read_calls (n : Int) (A : Option Addr) (c : Nat) (l : List S30) (w : World) (hr1 : Kd.C k30 w A l.length l) (hc1 : l.length ≤ c) :
    Calls Try.prog 44 #[.int .i64 n, .slice A l.length c] w fun e w' => (readB n l = 0 ∧ ∃ g m, e = .returned (.tuple #[.pointer (some ⟨g, 0, none⟩), .int .i64 0]) ∧ w.heap.size ≤ g ∧ w.heap.size ≤ m ∧
      w'.heap[g]? = some (.cells #[.int .i64 n, .slice A l.length c, .map (some m)] 70 (0, 0)) ∧ GrpM w' w.heap.size m (toB l l.length) ∧ Below w.heap.size w w') ∨
      (readB n l ≠ 0 ∧ e = .returned (.tuple #[.pointer none, .int .i64 (readB n l)]) ∧ Below w.heap.size w w') := by
  have hu30 := Try.underlying30
  have HR1 := Aside0.mk hr1
  have HC1 := Aside0.mk hc1
  clear hr1 hc1
  have HB := Aside0.mk (Below.refl w.heap.size w)
  go_enter Try.func44, Try.ntmps44
  by_cases c1 : n < 2
  · have c1b : decide (n < 2) = true := decide_eq_true c1
    have hR : readB n l = 2 := by unfold readB; rw [if_pos (.inl c1)]
    have HRX := Aside0.mk hR
    clear hR
    go_wp2
    go_ret2
    exact .inr ⟨by rw [HRX.out]; decide, by rw [HRX.out]; rfl, HB.out⟩
  have c1b : decide (n < 2) = false := decide_eq_false c1
  by_cases c2 : 7 < n
  · have c2b : decide (7 < n) = true := decide_eq_true c2
    have hR : readB n l = 2 := by unfold readB; rw [if_pos (.inr c2)]
    have HRX := Aside0.mk hR
    clear hR
    go_wp2
    go_ret2
    exact .inr ⟨by rw [HRX.out]; decide, by rw [HRX.out]; rfl, HB.out⟩
  have c2b : decide (7 < n) = false := decide_eq_false c2
  by_cases c3 : 30 < (l.length : Int)
  · have c3b : decide (30 < (l.length : Int)) = true := decide_eq_true c3
    have c3b2 : decide (30 < l.length) = true := decide_eq_true (by omega)
    have hR : readB n l = 3 := by unfold readB; rw [if_neg (by omega), if_pos (by omega)]
    have HRX := Aside0.mk hR
    clear hR
    go_wp2
    go_ret2
    exact .inr ⟨by rw [HRX.out]; decide, by rw [HRX.out]; rfl, HB.out⟩
  have c3b : decide (30 < (l.length : Int)) = false := decide_eq_false c3
  have c3b2 : decide (30 < l.length) = false := decide_eq_false (by omega)
  have HL := Aside0.mk (show l.length ≤ 30 by omega)
  have hR : readB n l = if l.all (wayOk n) then 0 else 2 := by unfold readB; rw [if_neg (by omega), if_neg (by omega)]
  have HRB := Aside0.mk hR
  clear hR c1 c2 c3
  have h0 : (0 : Int) ≤ n := by have := of_decide_eq_false c1b; omega
  go_wp2_with (first | ((with_reducible refine gate_dst (N := 22) rfl ?_); refine map_event ?hg (N := 22) ?hd ?hr ?_; (case hd => rfl); (case hg => rfl); (case hr => rfl); intro m hm w1 hmap hb; have n0_ := Aside0.mk (GrpM.new (base := w.heap.size) hmap); have n1_ := Aside0.mk (below_step (by repeat (first | (with_reducible first | exact HB.out | apply below_alloc | apply pw_below_drewN | apply below_drew1) | exact HB.out)) hb); have GM := Aside0.mk ((by rw [hm]; exact (below_size (by repeat (first | (with_reducible first | exact HB.out | apply below_alloc | apply pw_below_drewN | apply below_drew1) | exact HB.out)))) : w.heap.size ≤ m); clear HB; have HG := n0_; have HB := n1_; clear n0_ n1_; clear hm hmap hb) | ((with_reducible refine gate_dst (N := 24) rfl ?_); refine box_event ?hg (N := 24) ?hd (cs := #[.int .i64 n, .slice A l.length c, .map (some m)]) (t := 70) ?hr ?_; (case hd => rfl); (case hg => rfl); (case hr => first | (go_simp; done) | (go_simp; rfl)); intro gt hg w2 hbox hb; have n0_ := Aside0.mk (GrpM.below (w1 := w2) (by repeat (first | exact HG.out | refine GrpM.drew ?_)) hb); have n1_ := Aside0.mk (below_step (by repeat (first | (with_reducible first | exact HB.out | apply below_alloc | apply pw_below_drewN | apply below_drew1) | exact HB.out)) hb); have HT := Aside0.mk hbox; have GT := Aside0.mk ((by rw [hg]; exact (below_size (by repeat (first | (with_reducible first | exact HB.out | apply below_alloc | apply pw_below_drewN | apply below_drew1) | exact HB.out)))) : w.heap.size ≤ gt); clear HG HB; have HG := n0_; have HB := n1_; clear n0_ n1_; clear hg hbox hb))
  go_loopg [27] l.length (fun kq v27 w' => ∃ i : Nat, v27 = .int .i64 (i : Int) ∧ Aside0 (i + kq = l.length) ∧ Aside0 (∀ j : Nat, j < i → wayOk n (rd_T30 l (j : Int)) = true) ∧ Aside0 (w'.heap[gt]? = some (.cells #[.int .i64 n, .slice A l.length c, .map (some m)] 70 (0, 0))) ∧ Aside0 (GrpM w' w.heap.size m (toB l i)) ∧ Aside0 (Below w.heap.size w w'))
  case atStart => exact ⟨0, rfl, ⟨by simp⟩, ⟨fun j h => absurd h (by omega)⟩, HT, ⟨HG.out⟩, HB⟩
  case round =>
    clear HT HG HB
    obtain ⟨i, rfl, HI, HA, HT, HG, HB⟩ := hrel
    cases gk with
    | zero =>
      have hi := HI.out
      have c4b : decide ((i : Int) < (l.length : Int)) = false := decide_eq_false (by omega)
      have c4b2 : decide (i < l.length) = false := decide_eq_false (by omega)
      have hl : i = l.length := by omega
      have HLI := Aside0.mk hl
      clear hl hi
      go_wp2
      go_ret2
      exact .inl ⟨by rw [HRB.out, if_pos (all_upto _ l (HLI.out ▸ HA.out))], gt, m, rfl, GT.out, GM.out, HT.out, HLI.out ▸ HG.out, HB.out⟩
    | succ k1 =>
      have hi0 : (0 : Int) ≤ (i : Int) := Int.natCast_nonneg _
      have hi1 : (i : Int) < (l.length : Int) := by have := HI.out; omega
      have c4b : decide ((i : Int) < (l.length : Int)) = true := decide_eq_true hi1
      have c4b2 : decide (i < l.length) = true := decide_eq_true (by omega)
      have hi2 : i < l.length := by omega
      replace hi2 := eq_true hi2
      have c4c : decide ((0 : Int) ≤ (i : Int)) = true := decide_eq_true hi0
      obtain ⟨ad, e, hx_0, hx_1, hx_2⟩ := at_T30 HR1.out (i : Int) hi0 hi1
      cases e
      obtain ⟨x, hx⟩ : ∃ x, rd_T30 l (i : Int) = x := ⟨_, rfl⟩
      have HX := Aside0.mk hx
      rw [hx] at hx_0 hx_1 hx_2
      clear hx
      simp only [Int.toNat_natCast] at hx_0 hx_1 hx_2
      replace hx_0 := (HB.out.cell (World.block_lt_of_cell? w _ hx_0)).trans hx_0
      replace hx_1 := (HB.out.cell (World.block_lt_of_cell? w _ hx_1)).trans hx_1
      replace hx_2 := (HB.out.cell (World.block_lt_of_cell? w _ hx_2)).trans hx_2
      replace hi0 := eq_true hi0
      replace hi1 := eq_true hi1
      have HB0 := Aside0.mk HG.out.self
      go_upto_region 9 with (fail)
      (try simp only [Act.put, List.setIfInBounds_toArray, List.set_cons_zero, List.set_cons_succ])
      obtain ⟨gb, hgb⟩ : ∃ gb, wr.heap.size = gb := ⟨_, rfl⟩
      rw [hgb]
      obtain ⟨wq, hwq⟩ : ∃ wq, wr.alloc (.cells #[.int .i64 x.f0, .int .i64 x.f1, .int .i64 x.f2] 30) = wq := ⟨_, rfl⟩
      rw [hwq]
      have HB1 := Aside0.mk (hwq ▸ below_alloc HB0.out _ : Below wr.heap.size wr wq)
      have BK := Aside0.mk (hgb ▸ hwq ▸ heap_alloc_new wr _ : wq.heap[gb]? = some (.cells #[.int .i64 x.f0, .int .i64 x.f1, .int .i64 x.f2] 30 (0, 0)))
      have GEB := Aside0.mk (hgb ▸ HB.out.size : w.heap.size ≤ gb)
      have HB2 := Aside0.mk (below_step HB.out HB1.out)
      have HT2 := Aside0.mk (blk_below HT.out HB1.out)
      have HG2 := Aside0.mk (GrpM.below HG.out HB1.out)
      clear hgb hwq HB HT HG HB0 HB1 hx_0 hx_1 hx_2
      have hb_0 : wq.cell? ⟨gb, 0, none⟩ = some (.int .i64 x.f0) := (blk_cell BK.out 0).trans rfl
      have hb_1 : wq.cell? ⟨gb, 1, none⟩ = some (.int .i64 x.f1) := (blk_cell BK.out 1).trans rfl
      have hb_2 : wq.cell? ⟨gb, 2, none⟩ = some (.int .i64 x.f2) := (blk_cell BK.out 2).trans rfl
      go_cut [63] (fun v63 wc => ∃ b, v63 = .bool b ∧ Aside0 (b = !wayOk n x) ∧ Aside0 (wc.heap[gb]? = some (.cells #[.int .i64 x.f0, .int .i64 x.f1, .int .i64 x.f2] 30 (0, 0))) ∧ Aside0 (wc.heap[gt]? = some (.cells #[.int .i64 n, .slice (some ad) l.length c, .map (some m)] 70 (0, 0))) ∧ Aside0 (GrpM wc w.heap.size m (toB l i)) ∧ Aside0 (Below w.heap.size w wc))
      case first =>
        obtain ⟨jm, hjm⟩ : ∃ j_ : Int, mn x.f0 x.f1 = j_ := ⟨_, rfl⟩
        have hjm_ : (if x.f1 < x.f0 then x.f1 else x.f0) = jm := hjm
        obtain ⟨jx, hjx⟩ : ∃ j_ : Int, mx x.f0 x.f1 = j_ := ⟨_, rfl⟩
        have hjx_ : (if x.f0 < x.f1 then x.f1 else x.f0) = jx := hjx
        have HW := Aside0.mk (show (!wayOk n x) = (decide (jm < 0) || decide (n ≤ jx) || (x.f0 == x.f1) || decide (x.f2 < 0) || decide (1000 < x.f2)) by rw [← hjm, ← hjx]; simp [wayOk])
        clear hjm hjx
        by_cases t0 : jm < 0
        · have s0 : decide (jm < 0) = true := decide_eq_true t0
          clear t0
          go_wp2
          go_meet
          case rel => exact ⟨_, rfl, ⟨by rw [HW.out]; simp only [s0, Bool.true_or, Bool.or_true]⟩, BK, HT2, HG2, HB2⟩
        have s0 : decide (jm < 0) = false := decide_eq_false t0
        clear t0
        by_cases t1 : n ≤ jx
        · have s1 : decide (n ≤ jx) = true := decide_eq_true t1
          clear t1
          go_wp2
          go_meet
          case rel => exact ⟨_, rfl, ⟨by rw [HW.out]; simp only [s0, s1, Bool.true_or, Bool.or_true]⟩, BK, HT2, HG2, HB2⟩
        have s1 : decide (n ≤ jx) = false := decide_eq_false t1
        clear t1
        by_cases t2 : x.f0 = x.f1
        · have s2 : (x.f0 == x.f1) = true := beq_iff_eq.mpr t2
          clear t2
          go_wp2
          go_meet
          case rel => exact ⟨_, rfl, ⟨by rw [HW.out]; simp only [s0, s1, s2, Bool.true_or, Bool.or_true]⟩, BK, HT2, HG2, HB2⟩
        have s2 : (x.f0 == x.f1) = false := beq_eq_false_iff_ne.mpr t2
        clear t2
        by_cases t3 : x.f2 < 0
        · have s3 : decide (x.f2 < 0) = true := decide_eq_true t3
          clear t3
          go_wp2
          go_meet
          case rel => exact ⟨_, rfl, ⟨by rw [HW.out]; simp only [s0, s1, s2, s3, Bool.true_or, Bool.or_true]⟩, BK, HT2, HG2, HB2⟩
        have s3 : decide (x.f2 < 0) = false := decide_eq_false t3
        clear t3
        by_cases t4 : 1000 < x.f2
        · have s4 : decide (1000 < x.f2) = true := decide_eq_true t4
          clear t4
          go_wp2
          go_meet
          case rel => exact ⟨_, rfl, ⟨by rw [HW.out]; simp only [s0, s1, s2, s3, s4, Bool.true_or, Bool.or_true]⟩, BK, HT2, HG2, HB2⟩
        have s4 : decide (1000 < x.f2) = false := decide_eq_false t4
        clear t4
        go_wp2
        go_meet
        case rel => exact ⟨_, rfl, ⟨by rw [HW.out]; simp only [s0, s1, s2, s3, s4, Bool.or_false]⟩, BK, HT2, HG2, HB2⟩
      case rest =>
        clear BK HT2 HG2 HB2 hb_0 hb_1 hb_2
        obtain ⟨b, rfl, HW, BK, HT, HG, HB⟩ := hcut
        cases b with
        | true =>
          go_wp2
          go_ret2
          have hz : readB n l = 2 := by rw [HRB.out, not_all _ l i (by have := HI.out; omega) (by rw [HX.out]; have := HW.out; cases hh : wayOk n x <;> simp [hh] at this ⊢)]; rfl
          exact .inr ⟨by rw [hz]; decide, by rw [hz]; rfl, HB.out⟩
        | false =>
          obtain ⟨i0, hi0_, hz0, hz1, hz2⟩ := info_parts info3
          have hm3 : Aside0 (∀ w, (zeroValue 28).run Try.prog w = .ok (.slice none 0 0) w) := ⟨fun w => by first | rfl | (go_simp; done)⟩
          obtain ⟨v, hlook, hRv, hvm, hback⟩ := GrpM.lookup HG.out Try.underlying68 Try.underlying3 x.f1 hm3.out
          have hown := Kd.own_of_R hRv
          have HBK := Aside0.mk hback
          have HLK := Aside0.mk hlook
          have hlk : (Instr.lookup 68 (.map (some m)) (.int .i64 x.f1) false).run Try.prog wc.drew = .ok v wc.drew := HLK.out wc.drew rfl
          have hlk2 : (Instr.lookup 68 (.map (some m)) (.int .i64 x.f1) false).run Try.prog (wc.alloc (.cells #[.int .i64 (i : Int)] 3)).drew = .ok v (wc.alloc (.cells #[.int .i64 (i : Int)] 3)).drew := HLK.out _ (Below.heap_alloc wc _ m HG.out.lt)
          clear hback hlook
          have hbx : wc.cell? ⟨gb, 1, none⟩ = some (.int .i64 x.f1) := (blk_cell BK.out 1).trans rfl
          have htx : wc.cell? ⟨gt, 2, none⟩ = some (.map (some m)) := (blk_cell HT.out 2).trans rfl
          have hvb : v.ownBlock ≠ some gb := fun h => (blk_ne ((own_typed hown gb h).choose_spec) BK.out (by decide)) rfl
          have hvt : v.ownBlock ≠ some gt := fun h => (blk_ne ((own_typed hown gt h).choose_spec) HT.out (by decide)) rfl
          have lb := blk_lt BK.out
          have lt := blk_lt HT.out
          have lm := HG.out.lt
          have hll : (toB l i x.f1).length ≤ 30 := Nat.le_trans (toB_len l i x.f1) (by have := HI.out; have := HL.out; omega)
          have hbase : w.heap.size ≤ wc.heap.size := HB.out.size
          have hmt : gt ≠ m := fun h => HG.out.ne_cells HT.out h.symm
          have hmb : gb ≠ m := fun h => HG.out.ne_cells BK.out h.symm
          go_wp2_with fail
          go_region_held3 (fun w' => w'.cell? ⟨gt, 2, none⟩ = some (.map (some m)) ∧ w'.cell? ⟨gb, 1, none⟩ = some (.int .i64 x.f1))
        (first
          | (go_split_ands
             refine ⟨by go_keep, by go_keep⟩)
          | (go_split_ands
             refine ⟨?_, ?_⟩
             · (rw [HGR2.out.cell_far _ (Nat.lt_of_lt_of_le lt HGR0.out.size) (by simpa using hmt)]; assumption)
             · (rw [HGR2.out.cell_far _ (Nat.lt_of_lt_of_le lb HGR0.out.size) (by simpa using hmb)]; assumption))
          | (go_split_ands
             refine ⟨?_, ?_⟩
             · (rw [hgrow.cell_far _ (by simp; omega) (Ne.symm hvt)]; assumption)
             · (rw [hgrow.cell_far _ (by simp; omega) (Ne.symm hvb)]; assumption)))
        (first | (refine step_lookup (by rfl) _ _ 68 (by rfl) (by rfl) (by rfl) (HLK.out _ (by first | rfl | exact Below.heap_alloc wc _ m lm)) ?_) | ((refine step_append_lies _ (by rfl) _ _ _ (by rfl) w.heap.size 3 i0 _ 1 8 Try.underlying28 hi0_ hz0 hz1 hz2 rfl (by omega) v (toB l i x.f1).length _ (by rfl) ((hown.alloc _).drew) ⟨wc.heap.size, 0, none⟩ 1 1 [.int .i64 (i : Int)] (by rfl) (by rfl) (World.news_of_block (cs := #[.int .i64 (i : Int)]) (t := 3) (fr := (0, 0)) (heap_alloc_new wc _)) (by simp [Value.oneCell']) (by omega) (by simp only [maxLen]; omega) (by omega) (by simp; omega) (wc.heap.size + 1) (by simp) ?_; intro gg cap w1 hown1 hgrow hat hlt; (have hgr0 : wc.grownBy w1 v.ownBlock := grown_then (below_drew1 (below_alloc (Below.refl _ _) _)) hgrow); (have hRn : Kd.R (Kd.int .i64) 3 w1 w.heap.size (fun _ => True) (.slice (some ⟨gg, 0, none⟩) ((toB l i x.f1).length + 1) cap) (toB l i x.f1 ++ [(i : Int)]) := Kd.R_of_own (by simpa [encs] using hown1) (fun _ _ => trivial)); (have hloc : (Value.slice (some ⟨gg, 0, none⟩) ((toB l i x.f1).length + 1) cap).ownBlock = v.ownBlock ∨ ∃ b, (Value.slice (some ⟨gg, 0, none⟩) ((toB l i x.f1).length + 1) cap).ownBlock = some b ∧ wc.heap.size ≤ b := by (rcases hat with h | h; exact .inl (by rw [h]; rfl); exact .inr ⟨gg, rfl, by omega⟩)); (obtain ⟨w2, hrun2, hG2, hgr2⟩ := HBK.out w1 _ _ hgr0 hRn hloc); have HG2 := Aside0.mk hG2; have HGR2 := Aside0.mk hgr2; have HGR0 := Aside0.mk hgr0; clear hRn hG2 hgr2 hgr0 hloc)))
          all_goals (go_wp2; go_roundg k1; (case measure => omega); (case rel => exact ⟨i + 1, val_succ i (by have := HI.out; have := HL.out; omega), ⟨by have := HI.out; omega⟩, ⟨fun j hj => by (rcases Nat.lt_or_ge j i with h | h; exact HA.out j h; (obtain rfl : j = i := by omega); rw [HX.out]; have := HW.out; cases hh : wayOk n x <;> simp [hh] at this ⊢)⟩, ⟨(HGR2.out.block gt (Nat.lt_of_lt_of_le lt HGR0.out.size) (by simpa using hmt)).trans ((HGR0.out.block gt lt (Ne.symm hvt)).trans HT.out)⟩, ⟨by have hh := HG2.out; have e := toB_step l i x.f1 (by rw [HX.out]); rw [e]; exact hh⟩, ⟨(HB.out.grown HGR0.out hbase (fun j hj => own_base hown j hj)).grown HGR2.out (Nat.le_trans hbase HGR0.out.size) (fun j hj => by cases hj; exact GM.out)⟩⟩))

/-! what a printed caller asks for -/
def branch_read.f (a0 : Int) (l1 : List (S30)) : Option Int := some (readB a0 l1)
theorem branch_read.calls_ok (a0 : Int) (A1 : Option Addr) (c1 : Nat) (l1 : List (S30)) (r : Int) (w : World) (hr1 : Kd.C k30 w A1 l1.length l1) (hc1 : l1.length ≤ c1) (h : branch_read.f a0 l1 = some r) (hz : (r == 0) = true) :
    Calls Try.prog 44 #[.int .i64 a0, .slice A1 l1.length c1] w fun e w' => ∃ g m, e = .returned (.tuple #[.pointer (some ⟨g, 0, none⟩), .int .i64 r]) ∧ w.heap.size ≤ g ∧ w'.heap[g]? = some (.cells #[.int .i64 a0, .slice A1 l1.length c1, .map m] 70 (0, 0)) ∧ Below w.heap.size w w' := by
  obtain rfl := Option.some.inj h
  have hz' : readB a0 l1 = 0 := beq_iff_eq.mp hz
  refine (read_calls a0 A1 c1 l1 w hr1 hc1).mono ?_
  rintro e w' (⟨_, g, m, rfl, hg, _, hb, _, hB⟩ | ⟨hn, _⟩)
  · exact ⟨g, some m, by rw [hz'], hg, hb, hB⟩
  · exact absurd hz' hn
theorem branch_read.calls_map (a0 : Int) (A1 : Option Addr) (c1 : Nat) (l1 : List (S30)) (r : Int) (w : World) (hr1 : Kd.C k30 w A1 l1.length l1) (hc1 : l1.length ≤ c1) (h : branch_read.f a0 l1 = some r) (hz : (r == 0) = true) :
    Calls Try.prog 44 #[.int .i64 a0, .slice A1 l1.length c1] w fun e w' => ∃ g m, e = .returned (.tuple #[.pointer (some ⟨g, 0, none⟩), .int .i64 r]) ∧ w.heap.size ≤ g ∧ w'.heap[g]? = some (.cells #[.int .i64 a0, .slice A1 l1.length c1, .map (some m)] 70 (0, 0)) ∧ GrpM w' w.heap.size m (toB l1 l1.length) ∧ Below w.heap.size w w' := by
  obtain rfl := Option.some.inj h
  have hz' : readB a0 l1 = 0 := beq_iff_eq.mp hz
  refine (read_calls a0 A1 c1 l1 w hr1 hc1).mono ?_
  rintro e w' (⟨_, g, m, rfl, hg, _, hb, hG, hB⟩ | ⟨hn, _⟩)
  · exact ⟨g, m, by rw [hz'], hg, hb, hG, hB⟩
  · exact absurd hz' hn
theorem branch_read.calls_err (a0 : Int) (A1 : Option Addr) (c1 : Nat) (l1 : List (S30)) (r : Int) (w : World) (hr1 : Kd.C k30 w A1 l1.length l1) (hc1 : l1.length ≤ c1) (h : branch_read.f a0 l1 = some r) (hz : (r == 0) = false) :
    Calls Try.prog 44 #[.int .i64 a0, .slice A1 l1.length c1] w fun e w' => e = .returned (.tuple #[.pointer none, .int .i64 r]) ∧ Below w.heap.size w w' := by
  obtain rfl := Option.some.inj h
  have hz' : readB a0 l1 ≠ 0 := fun h => by rw [h] at hz; exact absurd hz (by decide)
  refine (read_calls a0 A1 c1 l1 w hr1 hc1).mono ?_
  rintro e w' (⟨h0, _⟩ | ⟨_, he, hB⟩)
  · exact absurd h0 hz'
  · exact ⟨he, hB⟩
end Go.Proofs.Ytpmadffgdfholaa.B
