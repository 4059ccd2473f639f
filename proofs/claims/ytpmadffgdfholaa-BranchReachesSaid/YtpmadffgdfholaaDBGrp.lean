/- Maps of rows of whole numbers (groups): what a lookup, an append and a store do. -/
import Derived.Test.YtpmadffgdfholaaDBMaps
namespace Go.Proofs.Ytpmadffgdfholaa.B
open Go.RowKit Go.MapKept Go.Proofs.YtpmadffgdfholaaW.PrintWords Go.Proofs.YtpmadffgdfholaaW.PrintLast Go.Proofs.YtpmadffgdfholaaW.PrintMore

/-- Block m is a map of rows: row i holds g i; rows of two keys lie apart. -/
def GrpM (w : World) (base m : Nat) (g : Int → List Int) : Prop :=
  ∃ es clock, w.heap[m]? = some (.map es clock) ∧ Good es clock ∧
    (∀ e ∈ es.toList, ∀ i, e.key = .int .i64 i → Kd.R (Kd.int .i64) 3 w base (fun _ => True) e.val (g i)) ∧
    (∀ i, g i ≠ [] → ∃ e ∈ es.toList, e.key = .int .i64 i) ∧
    (∀ x ∈ es.toList, ∀ y ∈ es.toList, x.key ≠ y.key → ∀ k, x.val.ownBlock = some k → y.val.ownBlock ≠ some k)

theorem GrpM.lt {w : World} {base m : Nat} {g : Int → List Int} (h : GrpM w base m g) : m < w.heap.size := by
  obtain ⟨es, clock, hb, _⟩ := h
  exact blk_lt hb
theorem GrpM.step {w w1 : World} {base m : Nat} {g : Int → List Int} (h : GrpM w base m g) (hk : ∀ k, k < w.heap.size → (k = m ∨ ∃ cells, w.heap[k]? = some (.cells cells 3 (0, 0))) → w1.heap[k]? = w.heap[k]?) : GrpM w1 base m g := by
  obtain ⟨es, clock, hb, hg, hr, hin, hap⟩ := h
  refine ⟨es, clock, (hk m (blk_lt hb) (.inl rfl)).trans hb, hg, fun e he i hi => ?_, hin, hap⟩
  refine Kd.R_mono (Kd.R_move (Kd.R_bound (hr e he i hi)) (fun k h => ?_)) (fun _ _ => trivial)
  obtain ⟨_, _, hlt, q, hq, cells, hc⟩ := h
  have : q = 3 := by
    rcases List.mem_cons.1 hq with h | h
    · exact h
    · exact absurd h (by simp [Kd.int, Kd.scalar])
  subst this
  exact hk k hlt (.inr ⟨cells, hc⟩)
theorem GrpM.below {w w1 : World} {base m : Nat} {g : Int → List Int} (h : GrpM w base m g) (hb : Below w.heap.size w w1) : GrpM w1 base m g := h.step fun k hk _ => hb.block k hk
theorem GrpM.drew {w : World} {base m : Nat} {g : Int → List Int} (h : GrpM w base m g) : GrpM w.drew base m g := h.step fun _ _ _ => rfl
theorem GrpM.far {w : World} {base m : Nat} {g : Int → List Int} (h : GrpM w base m g) {a i : Nat} {cs : Array Value} {t : TypeId} (hb : w.heap[a]? = some (.cells cs t (0, 0))) (ht : t ≠ 3) (u : Value) : GrpM (w.setCell ⟨a, i, none⟩ u) base m g := by
  refine h.step fun k hk hor => Below.heap_setCell w ⟨a, i, none⟩ u k ?_
  rintro rfl
  rcases hor with rfl | ⟨cells, hc⟩
  · obtain ⟨es, clock, hb2, _⟩ := h
    rw [hb] at hb2; injection hb2 with hb2; cases hb2
  · rw [hb] at hc; injection hc with hc; injection hc with _ hc; exact ht hc
theorem GrpM.made (w : World) (base : Nat) : GrpM (w.alloc (.map #[] 0)) base w.heap.size (fun _ => []) :=
  ⟨#[], 0, heap_alloc_new w _, Good.empty 0, by simp, fun _ h => absurd rfl h, by simp⟩
theorem GrpM.ne_cells {w : World} {base m a : Nat} {g : Int → List Int} {cs : Array Value} {t : TypeId} {fr : Nat × Nat} (h : GrpM w base m g) (hb : w.heap[a]? = some (.cells cs t fr)) : m ≠ a := by
  rintro rfl
  obtain ⟨es, clock, hb2, _⟩ := h
  rw [hb] at hb2; injection hb2 with hb2; cases hb2

/-- A lookup, what it gives, and what a longer row in the same place makes of the map. -/
theorem GrpM.lookup {P : Program} {w : World} {base m mt kt et : Nat} {g : Int → List Int} (h : GrpM w base m g) (ht : P.underlying mt = some (.map kt et)) (hk : P.underlying kt = some (.int .i64)) (i : Int) (hz : ∀ w, (zeroValue et).run P w = .ok (.slice none 0 0) w) :
    ∃ v, (∀ w', w'.heap[m]? = w.heap[m]? → (Instr.lookup mt (.map (some m)) (.int .i64 i) false).run P w' = .ok v w') ∧
      Kd.R (Kd.int .i64) 3 w base (fun _ => True) v (g i) ∧ v.ownBlock ≠ some m ∧
      ∀ (w1 : World) (v' : Value) (zs : List Int), w.grownBy w1 v.ownBlock → Kd.R (Kd.int .i64) 3 w1 base (fun _ => True) v' zs → (v'.ownBlock = v.ownBlock ∨ ∃ b, v'.ownBlock = some b ∧ w.heap.size ≤ b) →
        ∃ w2, (Instr.mapUpdate mt (.map (some m)) (.int .i64 i) v').run P w1 = .ok () w2 ∧ GrpM w2 base m (fun j => if j = i then zs else g j) ∧ w1.grownBy w2 (some m) := by
  obtain ⟨es, clock, hb, hg, hr, hin, hap⟩ := h
  have hrow : ∀ {W : World} {v : Value} {zs : List Int}, W.heap[m]? = some (.map es clock) → Kd.R (Kd.int .i64) 3 W base (fun _ => True) v zs → v.ownBlock ≠ some m := by
    intro W v zs hB hR he
    obtain ⟨inner, ho⟩ := Kd.R_own hR
    obtain ⟨cells, hc⟩ := own_typed ho m he
    rw [hB] at hc; injection hc with hc; cases hc
  have back : ∀ (v : Value), v.ownBlock ≠ some m → (∀ x ∈ es.toList, x.key ≠ .int .i64 i → ∀ k, x.val.ownBlock = some k → v.ownBlock ≠ some k) →
      ∀ (w1 : World) (v' : Value) (zs : List Int), w.grownBy w1 v.ownBlock → Kd.R (Kd.int .i64) 3 w1 base (fun _ => True) v' zs → (v'.ownBlock = v.ownBlock ∨ ∃ b, v'.ownBlock = some b ∧ w.heap.size ≤ b) →
        ∃ w2, (Instr.mapUpdate mt (.map (some m)) (.int .i64 i) v').run P w1 = .ok () w2 ∧ GrpM w2 base m (fun j => if j = i then zs else g j) ∧ w1.grownBy w2 (some m) := by
    intro v hvm hvap w1 v' zs hgr hR' hloc
    have hb1 : w1.heap[m]? = some (.map es clock) := (hgr.block m (blk_lt hb) (fun h => hvm h.symm)).trans hb
    obtain ⟨es', clock', hrun, hg', hin', hback, hforth, hval⟩ := run_update ht hk hb1 hg i v'
    have hs := heap_set (o' := Obj.map es' clock') hb1
    have hgr2 : w1.grownBy { w1 with heap := w1.heap.setIfInBounds m (.map es' clock') } (some m) := ⟨rfl, rfl, rfl, by simp, fun k hk hne => hs.2 k (fun h => hne (by rw [h]))⟩
    refine ⟨_, hrun, ⟨es', clock', hs.1, hg', fun e he j hj => ?_, fun j hj => ?_, fun x hx y hy hne k hkx => ?_⟩, hgr2⟩
    · by_cases hji : j = i
      · subst hji
        simp only [↓reduceIte]
        rw [hval e he hj]
        have hR3 : Kd.R (Kd.int .i64) 3 w1 base (fun k => v'.ownBlock = some k) v' zs := Kd.R_of_own (Kd.own_of_R hR') (fun _ h => h)
        exact Kd.R_mono (Kd.R_step hR3 fun k hkk hlt => hgr2.block k hlt (fun h => by
          injection h with h; subst h
          exact hrow hb1 hR' hkk)) (fun _ _ => trivial)
      · simp only [if_neg hji]
        have hek : e.key ≠ .int .i64 i := by rw [hj]; intro hh; injection hh with _ hh; exact hji hh
        obtain ⟨e0, h0, h1, h2⟩ := hback e he hek
        rw [← h2]
        have hR0 := hr e0 h0 j (h1.trans hj)
        have hne0 : ∀ k, e0.val.ownBlock = some k → v.ownBlock ≠ some k := hvap e0 h0 (by rw [h1]; exact hek)
        have hR1 : Kd.R (Kd.int .i64) 3 w base (fun k => e0.val.ownBlock = some k) e0.val (g j) := Kd.R_of_own (Kd.own_of_R hR0) (fun _ h => h)
        have hR2 := Kd.R_grown hR1 hgr (fun k hk h => hne0 k hk h.symm)
        exact Kd.R_mono (Kd.R_step hR2 fun k hkk hlt => hgr2.block k hlt (fun h => by
          injection h with h; subst h
          exact hrow hb hR0 hkk)) (fun _ _ => trivial)
    · by_cases hji : j = i
      · obtain ⟨e, he, h1, _⟩ := hin'
        exact ⟨e, he, hji ▸ h1⟩
      · simp only [if_neg hji] at hj
        obtain ⟨e, he, h1⟩ := hin j hj
        obtain ⟨e0, h0, h2, _⟩ := hforth e he (by rw [h1]; intro hh; injection hh with _ hh; exact hji hh)
        exact ⟨e0, h0, h2.trans h1⟩
    · have old : ∀ z ∈ es'.toList, z.key ≠ .int .i64 i → ∃ z0 ∈ es.toList, z0.key = z.key ∧ z0.val = z.val := hback
      have lo : ∀ z ∈ es.toList, ∀ k, z.val.ownBlock = some k → k < w.heap.size := fun z hz k hk => by
        obtain ⟨j, hj⟩ := hg.keys z hz
        exact own_lt (Kd.own_of_R (hr z hz j hj)) k hk
      have new : ∀ z ∈ es.toList, z.key ≠ .int .i64 i → ∀ k, z.val.ownBlock = some k → v'.ownBlock ≠ some k := fun z hz hzk k hk h' => by
        rcases hloc with h | ⟨b, h, hge⟩
        · exact hvap z hz hzk k hk (h ▸ h')
        · have := lo z hz k hk
          rw [h] at h'; injection h' with h'; omega
      by_cases hxi : x.key = .int .i64 i
      · have hyi : y.key ≠ .int .i64 i := fun h => hne (hxi.trans h.symm)
        obtain ⟨y0, hy0, e1, e2⟩ := old y hy hyi
        rw [hval x hx hxi] at hkx
        rw [← e2]
        intro hyk
        exact new y0 hy0 (e1 ▸ hyi) k hyk hkx
      · obtain ⟨x0, hx0, e1, e2⟩ := old x hx hxi
        rw [← e2] at hkx
        by_cases hyi : y.key = .int .i64 i
        · rw [hval y hy hyi]
          exact new x0 hx0 (e1 ▸ hxi) k hkx
        · obtain ⟨y0, hy0, e3, e4⟩ := old y hy hyi
          rw [← e4]
          exact hap x0 hx0 y0 hy0 (by rw [e1, e3]; exact hne) k hkx
  by_cases hex : ∃ e ∈ es.toList, e.key = .int .i64 i
  · obtain ⟨e, he, hi⟩ := hex
    have hm := hrow hb (hr e he i hi)
    exact ⟨e.val, fun w' hw' => run_lookup_in ht hk (hw'.trans hb) hg i he hi, hr e he i hi, hm, back e.val hm (fun x hx hne k hkx => hap x hx e he (by rw [hi]; exact hne) k hkx)⟩
  · have hg0 : g i = [] := Classical.byContradiction fun h => hex (hin i h)
    refine ⟨.slice none 0 0, fun w' hw' => run_lookup_out ht hk (hw'.trans hb) hg i (fun e he h => hex ⟨e, he, h⟩) (hz w'), by rw [hg0]; exact Kd.R_nil _ _ _ _ _, by simp [Value.ownBlock], back _ (by simp [Value.ownBlock]) (fun x _ _ k _ => by simp [Value.ownBlock])⟩
end Go.Proofs.Ytpmadffgdfholaa.B
