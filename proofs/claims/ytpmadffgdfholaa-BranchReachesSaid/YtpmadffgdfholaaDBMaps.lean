/- Maps keyed by whole numbers: what a lookup, a store, a range and its steps do, for sets (every element is true) and for groups (every element is a row of whole numbers). -/
import Derived.Test.YtpmadffgdfholaaDBWords
import Derived.MapKept
namespace Go.Proofs.Ytpmadffgdfholaa.B
open Go.RowKit Go.MapKept Go.Proofs.YtpmadffgdfholaaW.PrintWords Go.Proofs.YtpmadffgdfholaaW.PrintLast Go.Proofs.YtpmadffgdfholaaW.PrintMore

/-- Entries whose keys are whole numbers, each once, with stamps of their own. -/
structure Good (es : Array MapEntry) (clock : Nat) : Prop where
  keys : ∀ e ∈ es.toList, ∃ i, e.key = .int .i64 i
  once : (es.toList.map (·.key)).Nodup
  born : (es.toList.map (·.born)).Nodup
  old : ∀ e ∈ es.toList, e.born < clock

theorem Good.isKey {es : Array MapEntry} {clock : Nat} (h : Good es clock) : ∀ x ∈ es.toList, IsKey (.int .i64) x.key := by
  intro x hx
  obtain ⟨i, hi⟩ := h.keys x hx
  rw [hi]; exact rfl

theorem Good.empty (clock : Nat) : Good #[] clock := ⟨by simp, by simp, by simp, by simp⟩

theorem Good.push {es : Array MapEntry} {clock : Nat} (h : Good es clock) (i : Int) (v : Value) (hn : ∀ e ∈ es.toList, e.key ≠ .int .i64 i) : Good (es.push { key := .int .i64 i, val := v, born := clock }) (clock + 1) := by
  refine ⟨?_, ?_, ?_, ?_⟩
  · intro e he
    simp only [Array.toList_push, List.mem_append, List.mem_singleton] at he
    rcases he with he | rfl
    · exact h.keys e he
    · exact ⟨i, rfl⟩
  · simp only [Array.toList_push, List.map_append, List.map_cons, List.map_nil]
    rw [List.nodup_append]
    refine ⟨h.once, by simp, ?_⟩
    intro a ha b hb
    simp only [List.mem_singleton] at hb
    subst hb
    obtain ⟨e, he, rfl⟩ := List.mem_map.1 ha
    exact hn e he
  · simp only [Array.toList_push, List.map_append, List.map_cons, List.map_nil]
    rw [List.nodup_append]
    refine ⟨h.born, by simp, ?_⟩
    intro a ha b hb
    simp only [List.mem_singleton] at hb
    subst hb
    obtain ⟨e, he, rfl⟩ := List.mem_map.1 ha
    have := h.old e he
    omega
  · intro e he
    simp only [Array.toList_push, List.mem_append, List.mem_singleton] at he
    rcases he with he | rfl
    · exact Nat.lt_succ_of_lt (h.old e he)
    · exact Nat.lt_succ_self _

theorem modify_toList (es : Array MapEntry) (j : Nat) (k v : Value) : (es.modify j fun e => { e with key := k, val := v }).toList = es.toList.modify j (fun e => { e with key := k, val := v }) := by simp

theorem map_modify_id {β : Type} (g : MapEntry → β) (f : MapEntry → MapEntry) (l : List MapEntry) (j : Nat) (h : ∀ e, l[j]? = some e → g (f e) = g e) : (l.modify j f).map g = l.map g := by
  apply List.ext_getElem?
  intro q
  simp only [List.getElem?_map, List.getElem?_modify]
  by_cases hq : j = q
  · subst hq
    cases e : l[j]? with
    | none => simp
    | some x => simp [h x e]
  · simp [hq]

theorem Good.modify {es : Array MapEntry} {clock : Nat} (h : Good es clock) (i : Int) (v : Value) (j : Nat) (hj : ∀ e, es.toList[j]? = some e → e.key = .int .i64 i) : Good (es.modify j fun e => { e with key := .int .i64 i, val := v }) clock := by
  have hk : (es.toList.modify j fun e => { e with key := .int .i64 i, val := v }).map (·.key) = es.toList.map (·.key) := map_modify_id _ _ _ _ fun e he => (hj e he).symm
  have hb : (es.toList.modify j fun e => { e with key := .int .i64 i, val := v }).map (·.born) = es.toList.map (·.born) := map_modify_id _ _ _ _ fun e he => rfl
  refine ⟨?_, ?_, ?_, ?_⟩
  · intro e he
    rw [modify_toList] at he
    have : e.key ∈ es.toList.map (·.key) := hk ▸ List.mem_map_of_mem he
    obtain ⟨x, hx, ex⟩ := List.mem_map.1 this
    obtain ⟨q, hq⟩ := h.keys x hx
    exact ⟨q, by rw [← ex, hq]⟩
  · rw [modify_toList, hk]; exact h.once
  · rw [modify_toList, hb]; exact h.born
  · intro e he
    rw [modify_toList] at he
    have : e.born ∈ es.toList.map (·.born) := hb ▸ List.mem_map_of_mem he
    obtain ⟨x, hx, ex⟩ := List.mem_map.1 this
    rw [← ex]; exact h.old x hx

/-! ### the runs -/
section
variable {P : Program} {w : World} {m mt kt et : Nat} {es : Array MapEntry} {clock : Nat}

theorem run_lookup_in (ht : P.underlying mt = some (.map kt et)) (hk : P.underlying kt = some (.int .i64)) (hb : w.heap[m]? = some (.map es clock)) (hg : Good es clock) (i : Int) {e : MapEntry} (he : e ∈ es.toList) (hi : e.key = .int .i64 i) :
    (Instr.lookup mt (.map (some m)) (.int .i64 i) false).run P w = .ok e.val w := by
  rcases findNow_spec (d := .int .i64) (k := .int .i64 i) rfl es.toList 0 hg.isKey with ⟨_, h2⟩ | ⟨j, e', h1, h2, h3⟩
  · exact absurd hi (h2 e he)
  · have hee : e' = e := by
      have hm := List.mem_of_getElem? h2
      have := hg.once
      have inj : ∀ {l : List MapEntry}, (l.map (·.key)).Nodup → ∀ a ∈ l, ∀ b ∈ l, a.key = b.key → a = b := by
        intro l hl
        induction l with
        | nil => intro a ha; cases ha
        | cons x l ih =>
          simp only [List.map_cons, List.nodup_cons] at hl
          intro a ha b hb hab
          rcases List.mem_cons.1 ha with ea | ha <;> rcases List.mem_cons.1 hb with eb | hb
          · rw [ea, eb]
          · exact absurd (List.mem_map.2 ⟨b, hb, by rw [← hab, ea]⟩) hl.1
          · exact absurd (List.mem_map.2 ⟨a, ha, by rw [hab, eb]⟩) hl.1
          · exact ih hl.2 a ha b hb hab
      exact inj hg.once _ hm _ he (h3.trans hi.symm)
    subst hee
    simp only [Nat.zero_add] at h1
    simp [Instr.lookup, run_underlying ht, Result.andThen, MapKept.run_getObj_map hb, run_checkKey (e := es.isEmpty) (n := 9999) hk (show IsKey (.int .i64) (.int .i64 i) from rfl), run_findKey hk h1]

theorem run_lookup_out (ht : P.underlying mt = some (.map kt et)) (hk : P.underlying kt = some (.int .i64)) (hb : w.heap[m]? = some (.map es clock)) (hg : Good es clock) (i : Int) (hn : ∀ e ∈ es.toList, e.key ≠ .int .i64 i) {z : Value} (hz : (zeroValue et).run P w = .ok z w) :
    (Instr.lookup mt (.map (some m)) (.int .i64 i) false).run P w = .ok z w := by
  rcases findNow_spec (d := .int .i64) (k := .int .i64 i) rfl es.toList 0 hg.isKey with ⟨h1, _⟩ | ⟨j, e', _, h2, h3⟩
  · simp [Instr.lookup, run_underlying ht, Result.andThen, MapKept.run_getObj_map hb, run_checkKey (e := es.isEmpty) (n := 9999) hk (show IsKey (.int .i64) (.int .i64 i) from rfl), run_findKey hk h1, hz]
  · exact absurd h3 (hn e' (List.mem_of_getElem? h2))

theorem run_lookup_nil (ht : P.underlying mt = some (.map kt et)) (hk : P.underlying kt = some (.int .i64)) (i : Int) {z : Value} (hz : (zeroValue et).run P w = .ok z w) :
    (Instr.lookup mt (.map none) (.int .i64 i) false).run P w = .ok z w := by
  have h1 : Instr.findNow (.int .i64) (.int .i64 i) [] 0 = some none := rfl
  simp [Instr.lookup, run_underlying ht, Result.andThen, run_checkKey (e := true) (n := 9999) hk (show IsKey (.int .i64) (.int .i64 i) from rfl), run_findKey hk h1, hz]

/-- A store into a map: what its entries are behind it. -/
theorem run_update (ht : P.underlying mt = some (.map kt et)) (hk : P.underlying kt = some (.int .i64)) (hb : w.heap[m]? = some (.map es clock)) (hg : Good es clock) (i : Int) (v : Value) :
    ∃ es' clock', (Instr.mapUpdate mt (.map (some m)) (.int .i64 i) v).run P w = .ok () { w with heap := w.heap.setIfInBounds m (.map es' clock') } ∧ Good es' clock' ∧
      (∃ e ∈ es'.toList, e.key = .int .i64 i ∧ e.val = v) ∧ (∀ e ∈ es'.toList, e.key ≠ .int .i64 i → ∃ e0 ∈ es.toList, e0.key = e.key ∧ e0.val = e.val) ∧ (∀ e ∈ es.toList, e.key ≠ .int .i64 i → ∃ e0 ∈ es'.toList, e0.key = e.key ∧ e0.val = e.val) ∧ (∀ e ∈ es'.toList, e.key = .int .i64 i → e.val = v) := by
  rcases findNow_spec (d := .int .i64) (k := .int .i64 i) rfl es.toList 0 hg.isKey with ⟨h1, h2⟩ | ⟨j, e', h1, h2, h3⟩
  · refine ⟨es.push { key := .int .i64 i, val := v, born := clock }, clock + 1, ?_, hg.push i v h2, ⟨{ key := .int .i64 i, val := v, born := clock }, by simp, rfl, rfl⟩, ?_, ?_, ?_⟩
    · simp [Instr.mapUpdate, run_underlying ht, Result.andThen, MapKept.run_getObj_map hb, run_checkKey (e := false) (n := 9999) hk (show IsKey (.int .i64) (.int .i64 i) from rfl), run_findKey hk h1, MapKept.run_setObj_map _ hb]
    · intro e he hne
      simp only [Array.toList_push, List.mem_append, List.mem_singleton] at he
      rcases he with he | rfl
      · exact ⟨e, he, rfl, rfl⟩
      · exact absurd rfl hne
    · intro e he hne
      exact ⟨e, by simp; exact .inl (by simpa using he), rfl, rfl⟩
    · intro e he heq
      simp only [Array.toList_push, List.mem_append, List.mem_singleton] at he
      rcases he with he | rfl
      · exact absurd heq (h2 e he)
      · rfl
  · simp only [Nat.zero_add] at h1
    have hj : ∀ e, es.toList[j]? = some e → e.key = .int .i64 i := fun e he => by rw [h2] at he; injection he with he; rw [← he]; exact h3
    have hsame : Instr.sameBits 10000 (((es[j]?).map (·.key)).getD (.int .i64 i)) (.int .i64 i) = true := by
      have : es[j]? = some e' := by simpa using h2
      rw [this]
      simp [h3, Instr.sameBits]
    have hget : ∀ q, (es.toList.modify j fun e => { e with key := .int .i64 i, val := v })[q]? = if j = q then (es.toList[q]?).map (fun e => { e with key := .int .i64 i, val := v }) else es.toList[q]? := by
      intro q; rw [List.getElem?_modify]; split <;> simp
    refine ⟨es.modify j fun e => { e with key := .int .i64 i, val := v }, clock, ?_, hg.modify i v j hj, ?_, ?_, ?_, ?_⟩
    · simp [Instr.mapUpdate, run_underlying ht, Result.andThen, MapKept.run_getObj_map hb, run_checkKey (e := false) (n := 9999) hk (show IsKey (.int .i64) (.int .i64 i) from rfl), run_findKey hk h1, Instr.keyThatStays, hsame, MapKept.run_setObj_map _ hb]
    · refine ⟨{ e' with key := .int .i64 i, val := v }, ?_, rfl, rfl⟩
      rw [modify_toList]
      exact List.mem_of_getElem? (i := j) (by rw [hget, if_pos rfl, h2]; rfl)
    · intro e he hne
      rw [modify_toList] at he
      obtain ⟨q, hq⟩ := List.getElem?_of_mem he
      rw [hget] at hq
      split at hq
      · rename_i hjq
        subst hjq
        rw [h2] at hq
        injection hq with hq
        exact absurd (by rw [← hq]) hne
      · exact ⟨e, List.mem_of_getElem? hq, rfl, rfl⟩
    · intro e he hne
      obtain ⟨q, hq⟩ := List.getElem?_of_mem he
      have hjq : j ≠ q := fun h => hne (hj e (h ▸ hq))
      refine ⟨e, ?_, rfl, rfl⟩
      rw [modify_toList]
      exact List.mem_of_getElem? (i := q) (by rw [hget, if_neg hjq]; exact hq)
    · intro e he heq
      rw [modify_toList] at he
      obtain ⟨q, hq⟩ := List.getElem?_of_mem he
      rw [hget] at hq
      split at hq
      · rename_i hjq
        subst hjq
        rw [h2] at hq
        injection hq with hq
        rw [← hq]
      · rename_i hjq
        exfalso
        have hn := hg.once
        have hq1 : (es.toList.map (·.key))[q]? = some (.int .i64 i) := by rw [List.getElem?_map, hq]; simp [heq]
        have hq2 : (es.toList.map (·.key))[j]? = some (.int .i64 i) := by rw [List.getElem?_map, h2]; simp [h3]
        obtain ⟨l2, e2⟩ := List.getElem?_eq_some_iff.1 hq2
        exact hjq ((List.getElem?_inj l2 hn).1 (hq2.trans hq1.symm))
end

/-! ### sets: every element is true -/
/-- Block m is a map whose keys are those at which g is true, and whose elements are all true. -/
def SetM (w : World) (m : Nat) (g : Int → Bool) : Prop :=
  ∃ es clock, w.heap[m]? = some (.map es clock) ∧ Good es clock ∧ (∀ e ∈ es.toList, e.val = .bool true) ∧ ∀ i, g i = true ↔ ∃ e ∈ es.toList, e.key = .int .i64 i

theorem SetM.lt {w : World} {m : Nat} {g : Int → Bool} (h : SetM w m g) : m < w.heap.size := by
  obtain ⟨es, clock, hb, _⟩ := h
  exact blk_lt hb
theorem SetM.of_block {w w1 : World} {m : Nat} {g : Int → Bool} (h : SetM w m g) (hm : w1.heap[m]? = w.heap[m]?) : SetM w1 m g := by
  obtain ⟨es, clock, hb, r⟩ := h
  exact ⟨es, clock, hm.trans hb, r⟩
theorem SetM.below {w w1 : World} {m : Nat} {g : Int → Bool} (h : SetM w m g) (hb : Below w.heap.size w w1) : SetM w1 m g := h.of_block (hb.block m h.lt)
theorem SetM.far {w : World} {m : Nat} {g : Int → Bool} (h : SetM w m g) {p : Addr} (hne : m ≠ p.block) (u : Value) : SetM (w.setCell p u) m g := h.of_block (Below.heap_setCell w p u m hne)
theorem SetM.made (w : World) : SetM (w.alloc (.map #[] 0)) w.heap.size (fun _ => false) := ⟨#[], 0, heap_alloc_new w _, Good.empty 0, by simp, by simp⟩
/-- What is no row of cells is no map. -/
theorem SetM.ne_cells {w : World} {m a : Nat} {g : Int → Bool} {cs : Array Value} {t : TypeId} {fr : Nat × Nat} (h : SetM w m g) (hb : w.heap[a]? = some (.cells cs t fr)) : m ≠ a := by
  rintro rfl
  obtain ⟨es, clock, hb2, _⟩ := h
  rw [hb] at hb2; injection hb2 with hb2; cases hb2

section
variable {P : Program} {w : World} {m mt kt et : Nat} {g : Int → Bool}
theorem SetM.lookup (h : SetM w m g) (ht : P.underlying mt = some (.map kt et)) (hk : P.underlying kt = some (.int .i64)) (i : Int) (hz : (zeroValue et).run P w = .ok (.bool false) w) :
    (Instr.lookup mt (.map (some m)) (.int .i64 i) false).run P w = .ok (.bool (g i)) w := by
  obtain ⟨es, clock, hb, hg, hv, hi⟩ := h
  cases hgi : g i with
  | true =>
    obtain ⟨e, he, hk2⟩ := (hi i).1 hgi
    rw [run_lookup_in ht hk hb hg i he hk2, hv e he]
  | false =>
    exact run_lookup_out ht hk hb hg i (fun e he hk2 => by rw [(hi i).2 ⟨e, he, hk2⟩] at hgi; cases hgi) hz
theorem SetM.update (h : SetM w m g) (ht : P.underlying mt = some (.map kt et)) (hk : P.underlying kt = some (.int .i64)) (i : Int) :
    ∃ w1, (Instr.mapUpdate mt (.map (some m)) (.int .i64 i) (.bool true)).run P w = .ok () w1 ∧ SetM w1 m (fun j => decide (j = i) || g j) ∧ w.grownBy w1 (some m) := by
  obtain ⟨es, clock, hb, hg, hv, hi⟩ := h
  obtain ⟨es', clock', hrun, hg', hin, hback, hforth, hval⟩ := run_update ht hk hb hg i (.bool true)
  have hs := heap_set (o' := Obj.map es' clock') hb
  refine ⟨_, hrun, ⟨es', clock', hs.1, hg', fun e he => ?_, fun j => ?_⟩, ⟨rfl, rfl, rfl, by simp, fun k hk hne => hs.2 k (fun h => hne (by rw [h]))⟩⟩
  · by_cases hek : e.key = .int .i64 i
    · exact hval e he hek
    · obtain ⟨e0, h0, _, h2⟩ := hback e he hek
      rw [← h2]; exact hv e0 h0
  · by_cases hji : j = i
    · subst hji
      simp only [decide_true, Bool.true_or, true_iff]
      obtain ⟨e, he, h1, _⟩ := hin
      exact ⟨e, he, h1⟩
    · simp only [hji, decide_false, Bool.false_or]
      rw [hi j]
      constructor
      · rintro ⟨e, he, hk2⟩
        obtain ⟨e0, h0, h1, _⟩ := hforth e he (by rw [hk2]; intro hh; injection hh with _ hh; exact hji hh)
        exact ⟨e0, h0, h1.trans hk2⟩
      · rintro ⟨e, he, hk2⟩
        obtain ⟨e0, h0, h1, _⟩ := hback e he (by rw [hk2]; intro hh; injection hh with _ hh; exact hji hh)
        exact ⟨e0, h0, h1.trans hk2⟩
end

/-- v is a map told as a set: a lookup of i gives what o says, in every world that stands above w. -/
def IsLook (P : Program) (mt : Nat) (w : World) (v : Value) (o : Int → Option Bool) : Prop :=
  ∀ W, Below w.heap.size w W → ∀ i r, o i = some r → (Instr.lookup mt v (.int .i64 i) false).run P W = .ok (.bool r) W
theorem IsLook.below {P : Program} {mt : Nat} {w W : World} {v : Value} {o : Int → Option Bool} (h : IsLook P mt w v o) (hB : Below w.heap.size w W) : IsLook P mt W v o :=
  fun W2 hW2 => h W2 (below_step hB hW2)
theorem IsLook.nil {P : Program} {mt kt et : Nat} (ht : P.underlying mt = some (.map kt et)) (hk : P.underlying kt = some (.int .i64)) (hz : ∀ w, (zeroValue et).run P w = .ok (.bool false) w) (w : World) : IsLook P mt w (.map none) (fun _ => some false) :=
  fun W _ i r h => by obtain rfl := Option.some.inj h; exact run_lookup_nil ht hk i (hz W)
theorem SetM.isLook {P : Program} {mt kt et : Nat} {w : World} {m : Nat} {g : Int → Bool} (h : SetM w m g) (ht : P.underlying mt = some (.map kt et)) (hk : P.underlying kt = some (.int .i64)) (hz : ∀ w, (zeroValue et).run P w = .ok (.bool false) w) : IsLook P mt w (.map (some m)) (fun i => some (g i)) :=
  fun W hW i r hr => by obtain rfl := Option.some.inj hr; exact (h.below hW).lookup ht hk i (hz W)
section
variable {P : Program} {ops : Array Oper} {Q : Exit → Act → World → Prop}
/-- A lookup in such a map, as one step. -/
theorem goesK_ {rest : List Oper} {oi : Oper} {a : Act} {w0 w : World} (N : Option Tmp) (hd : oi.dst = N) (hg : oi.guard = none) {mt : Nat} {v : Value} {o : Int → Option Bool} (hF : IsLook P mt w0 v o) {x y : Operand}
    (hop : oi.op = .lookup mt x y false) (hx : a.eval x = v) {i : Int} (hy : a.eval y = .int .i64 i) (hB : Below w0.heap.size w0 w) {r : Bool} (ho : o i = some r)
    (h : ∀ w2, Below w.heap.size w w2 → wpList P ops Q rest (a.put N (.bool r)) w2) : wpList P ops Q (oi :: rest) a w := by
  refine wpList_plain hg fun K hK => ?_
  have hr := hF w hB i r ho
  unfold Oper.wp
  simp only [execOp, hop, hx, hy]
  simp [hr, Result.andThen]
  subst hd
  exact hK _ _ (h w (Below.refl _ _))
end
end Go.Proofs.Ytpmadffgdfholaa.B
