/- A range over a set under way: what is still to come, and each step. -/
import Derived.Test.YtpmadffgdfholaaDBMaps
import Derived.Maps.RangeWalk
namespace Go.Proofs.Ytpmadffgdfholaa.B
open Go.RowKit Go.MapKept Go.ChangeMaps Go.Proofs.YtpmadffgdfholaaW.PrintWords Go.Proofs.YtpmadffgdfholaaW.PrintLast Go.Proofs.YtpmadffgdfholaaW.PrintMore

/-- Block r ranges over the set g in block m; done: the keys that have come; cnt: how many are still to come. -/
def IterM (w : World) (m r : Nat) (g done : Int → Bool) (cnt : Nat) : Prop :=
  ∃ es clock since seen c0, w.heap[m]? = some (.map es clock) ∧ Good es clock ∧ (∀ e ∈ es.toList, e.val = .bool true) ∧ (∀ i, g i = true ↔ ∃ e ∈ es.toList, e.key = .int .i64 i) ∧
    w.heap[r]? = some (.mapIter (some m) since seen c0) ∧ (∀ x ∈ es.toList, x.born < since) ∧ since ≤ c0 ∧ since ≤ clock ∧ cnt = (leftOf es seen).size ∧
    (∀ e ∈ es.toList, ∀ i, e.key = .int .i64 i → done i = seen.contains e.born) ∧ ∀ i, done i = true → g i = true

theorem IterM.set {w : World} {m r : Nat} {g done : Int → Bool} {cnt : Nat} (h : IterM w m r g done cnt) : SetM w m g := by
  obtain ⟨es, clock, since, seen, c0, hb, hg, hv, hi, _⟩ := h
  exact ⟨es, clock, hb, hg, hv, hi⟩
theorem IterM.lt {w : World} {m r : Nat} {g done : Int → Bool} {cnt : Nat} (h : IterM w m r g done cnt) : r < w.heap.size := by
  obtain ⟨es, clock, since, seen, c0, hb, hg, hv, hi, hr, _⟩ := h
  exact blk_lt hr
theorem IterM.of_blocks {w w1 : World} {m r : Nat} {g done : Int → Bool} {cnt : Nat} (h : IterM w m r g done cnt) (hm : w1.heap[m]? = w.heap[m]?) (hr : w1.heap[r]? = w.heap[r]?) : IterM w1 m r g done cnt := by
  obtain ⟨es, clock, since, seen, c0, hb, hg, hv, hi, hrr, rest⟩ := h
  exact ⟨es, clock, since, seen, c0, hm.trans hb, hg, hv, hi, hr.trans hrr, rest⟩
theorem IterM.ne {w : World} {m r : Nat} {g done : Int → Bool} {cnt : Nat} (h : IterM w m r g done cnt) : r ≠ m := by
  rintro rfl
  obtain ⟨es, clock, since, seen, c0, hb, hg, hv, hi, hr, _⟩ := h
  rw [hb] at hr; injection hr with hr; cases hr
theorem IterM.ne_map {w : World} {m r a : Nat} {g done g2 : Int → Bool} {cnt : Nat} (h : IterM w m r g done cnt) (h2 : SetM w a g2) : r ≠ a := by
  rintro rfl
  obtain ⟨es, clock, since, seen, c0, hb, hg, hv, hi, hr, _⟩ := h
  obtain ⟨es2, clock2, hb2, _⟩ := h2
  rw [hb2] at hr; injection hr with hr; cases hr
theorem IterM.ne_cells {w : World} {m r a : Nat} {g done : Int → Bool} {cnt : Nat} {cs : Array Value} {t : TypeId} {fr : Nat × Nat} (h : IterM w m r g done cnt) (hb : w.heap[a]? = some (.cells cs t fr)) : r ≠ a := by
  rintro rfl
  obtain ⟨es, clock, since, seen, c0, _, hg, hv, hi, hr, _⟩ := h
  rw [hb] at hr; injection hr with hr; cases hr

section
variable {P : Program} {w : World} {m r mt kt et : Nat} {g done : Int → Bool} {cnt : Nat}
theorem SetM.range (h : SetM w m g) (ht : P.underlying mt = some (.map kt et)) :
    ∃ w1 cnt, (Instr.range mt (.map (some m))).run P w = .ok (.pointer (some ⟨w.heap.size, 0, none⟩)) w1 ∧ IterM w1 m w.heap.size g (fun _ => false) cnt ∧ Below w.heap.size w w1 := by
  have hlt := h.lt
  obtain ⟨es, clock, hb, hg, hv, hi⟩ := h
  refine ⟨_, _, run_range_map w mt kt et m es clock ht hb, ⟨es, clock, clock, #[], clock, (Below.heap_alloc w _ m hlt).trans hb, hg, hv, hi, heap_alloc_new w _, hg.old, Nat.le_refl _, Nat.le_refl _, rfl, ?_, ?_⟩, below_alloc (Below.refl _ _) _⟩
  · intro e _ i _; simp
  · intro i h; exact absurd h (by simp)
theorem IterM.next (h : IterM w m r g done cnt) (ty : TypeId) :
    (cnt = 0 ∧ (∀ i, done i = g i) ∧ (Instr.next (.pointer (some ⟨r, 0, none⟩)) false ty).run P w = .ok (.tuple #[.bool false]) w) ∨
    ∃ i w1 cnt1, g i = true ∧ done i = false ∧ (Instr.next (.pointer (some ⟨r, 0, none⟩)) false ty).run P w = .ok (.tuple #[.bool true, .int .i64 i, .bool true]) w1 ∧
      IterM w1 m r g (fun j => decide (j = i) || done j) cnt1 ∧ cnt1 < cnt ∧ w.grownBy w1 (some r) ∧ (Instr.entry (.pointer (some ⟨r, 0, none⟩))).run P w1 = .ok (.tuple #[.int .i64 i, .bool true]) w1 := by
  have hne := h.ne
  obtain ⟨es, clock, since, seen, c0, hb, hg, hv, hi, hr, hold, hsc, hsk, rfl, hd, hdg⟩ := h
  rcases run_next_at (P := P) w ty r m since c0 seen es clock hr hb hold hsc with ⟨h0, hrun⟩ | ⟨e, he, w1, hal, hrun⟩
  · refine .inl ⟨h0, fun i => ?_, hrun⟩
    cases hgi : g i with
    | true =>
      obtain ⟨x, hx, hk⟩ := (hi i).1 hgi
      rw [hd x hx i hk, all_seen es seen h0 x hx]
    | false =>
      cases hdi : done i with
      | false => rfl
      | true => rw [hdg i hdi] at hgi; exact hgi
  · obtain ⟨hem, hes⟩ := mem_left he
    obtain ⟨i, hk⟩ := hg.keys e hem
    have hev := hv e hem
    have hr1 : w1.heap[r]? = some (.mapIter (some m) since seen c0) := by rcases hal with rfl | rfl <;> exact hr
    have hb1 : w1.heap[m]? = some (.map es clock) := by rcases hal with rfl | rfl <;> exact hb
    have hset := heap_set (o' := .mapIter (some m) since (seen.push e.born) clock) hr1
    have hb' : (setBlock w1 r (.mapIter (some m) since (seen.push e.born) clock)).heap[m]? = some (.map es clock) := (hset.2 m (fun e1 => hne e1.symm)).trans hb1
    rw [hk, hev] at hrun
    refine .inr ⟨i, _, _, (hi i).2 ⟨e, hem, hk⟩, by rw [hd e hem i hk]; exact hes, hrun, ⟨es, clock, since, seen.push e.born, clock, hb', hg, hv, hi, hset.1, hold, hsk, hsk, rfl, ?_, ?_⟩, left_shrinks es seen e he, ?_, ?_⟩
    · intro x hx j hj
      show (decide (j = i) || done j) = _
      rw [contains_push, hd x hx j hj]
      by_cases hji : j = i
      · subst hji
        have hxe : x = e := by
          obtain ⟨p, hp⟩ := List.getElem?_of_mem hx
          obtain ⟨q, hq⟩ := List.getElem?_of_mem hem
          have h1 : (es.toList.map (·.key))[p]? = some (.int .i64 j) := by rw [List.getElem?_map, hp]; simp [hj]
          have h2 : (es.toList.map (·.key))[q]? = some (.int .i64 j) := by rw [List.getElem?_map, hq]; simp [hk]
          obtain ⟨l1, _⟩ := List.getElem?_eq_some_iff.1 h1
          have hpq := (List.getElem?_inj l1 hg.once).1 (h1.trans h2.symm)
          subst hpq
          rw [hp] at hq; injection hq
        subst hxe
        simp
      · have hbe : (x.born == e.born) = false := by
          rw [beq_eq_false_iff_ne]
          intro hbb
          apply hji
          have hxe : x = e := by
            obtain ⟨p, hp⟩ := List.getElem?_of_mem hx
            obtain ⟨q, hq⟩ := List.getElem?_of_mem hem
            have h1 : (es.toList.map (·.born))[p]? = some x.born := by rw [List.getElem?_map, hp]; rfl
            have h2 : (es.toList.map (·.born))[q]? = some x.born := by rw [List.getElem?_map, hq, hbb]; rfl
            obtain ⟨l1, _⟩ := List.getElem?_eq_some_iff.1 h1
            have hpq := (List.getElem?_inj l1 hg.born).1 (h1.trans h2.symm)
            subst hpq
            rw [hp] at hq; injection hq
          subst hxe
          rw [hj] at hk; injection hk
        rw [hbe]
        simp [hji]
    · intro j hj
      simp only [Bool.or_eq_true, decide_eq_true_eq] at hj
      rcases hj with rfl | hj
      · exact (hi j).2 ⟨e, hem, hk⟩
      · exact hdg j hj
    · rcases hal with rfl | rfl <;> exact ⟨rfl, rfl, rfl, by simp [setBlock], fun i _ hi => hset.2 i (fun e1 => hi (by rw [e1]))⟩
    · have := run_entry_at (P := P) _ r m since seen es clock e hset.1 hb' hem hg.born
      rw [hk, hev] at this
      exact this

/-- The two operations as steps of a walk. -/
theorem range_event {ops : Array Oper} {rest : List Oper} {o : Oper} {a : Act} {Q : Exit → Act → World → Prop} (hM : SetM w m g) (ht : P.underlying mt = some (.map kt et)) (hg : o.guard = none) (mo : Operand) (hop : o.op = Op.range mt mo) (hm : a.eval mo = .map (some m))
    (hK : ∀ r w1 cnt, w.heap.size ≤ r → IterM w1 m r g (fun _ => false) cnt → Below w.heap.size w w1 → wpList P ops Q rest (a.put o.dst (.pointer (some ⟨r, 0, none⟩))) w1) : wpList P ops Q (o :: rest) a w := by
  refine wpList_plain hg fun K' hK' => ?_
  obtain ⟨w1, cnt, hrun, h1, h2⟩ := hM.range ht
  unfold Oper.wp
  simp [execOp, hop, hm, hrun, Result.andThen]
  exact hK' _ _ (hK _ _ _ (Nat.le_refl _) h1 h2)
theorem next_event {ops : Array Oper} {rest : List Oper} {o : Oper} {a : Act} {Q : Exit → Act → World → Prop} (hI : IterM w m r g done cnt) (hg : o.guard = none) (it : Operand) (hop : o.op = Op.next it false) (hm : a.eval it = .pointer (some ⟨r, 0, none⟩))
    (hD : cnt = 0 → (∀ i, done i = g i) → wpList P ops Q rest (a.put o.dst (.tuple #[.bool false])) w)
    (hK : ∀ i w1 cnt1, g i = true → done i = false → IterM w1 m r g (fun j => decide (j = i) || done j) cnt1 → cnt1 < cnt → w.grownBy w1 (some r) → (Instr.entry (.pointer (some ⟨r, 0, none⟩))).run P w1 = .ok (.tuple #[.int .i64 i, .bool true]) w1 →
      wpList P ops Q rest (a.put o.dst (.tuple #[.bool true, .int .i64 i, .bool true])) w1) : wpList P ops Q (o :: rest) a w := by
  refine wpList_plain hg fun K' hK' => ?_
  unfold Oper.wp
  rcases hI.next (P := P) o.type with ⟨h0, hd, hrun⟩ | ⟨i, w1, cnt1, h1, h2, hrun, h3, h4, h5, h6⟩
  · simp [execOp, hop, hm, hrun, Result.andThen]
    exact hK' _ _ (hD h0 hd)
  · simp [execOp, hop, hm, hrun, Result.andThen]
    exact hK' _ _ (hK i w1 cnt1 h1 h2 h3 h4 h5 h6)
end
end Go.Proofs.Ytpmadffgdfholaa.B
