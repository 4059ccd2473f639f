/- branch.Proves: its walk by hand. -/
import Derived.Test.YtpmadffgdfholaaDBH4
import Derived.Test.YtpmadffgdfholaaDBA0
import Derived.Test.YtpmadffgdfholaaDBA1
import Derived.Test.YtpmadffgdfholaaDBA2
import Derived.Test.YtpmadffgdfholaaDBA3
import Derived.Test.YtpmadffgdfholaaDBA4
import Derived.Test.YtpmadffgdfholaaDBA10
import Derived.Test.YtpmadffgdfholaaDBA11
import Derived.WalkSpells
import Derived.Deep.RegionHeld3
import Derived.Deep.AppendLies
import Derived.Deep.DrawnRows
namespace Go.Proofs.Ytpmadffgdfholaa.B
open Go.RowKit Go.MapKept Go.Proofs.YtpmadffgdfholaaW.PrintWords Go.Proofs.YtpmadffgdfholaaW.PrintLast Go.Proofs.YtpmadffgdfholaaW.PrintMore
set_option linter.unusedVariables false
set_option linter.unusedSimpArgs false
attribute [local go_sem ↓] Go.wp_at_zero Go.wp_at_succ

/-- What is left of the costs when a price is taken from the streets of a list; none inside: one of them has less. -/
def takeB : List Int → List Int → Int → Option (Option (List Int))
  | left, [], _ => some (some left)
  | left, i :: E, w => if 0 ≤ i ∧ i < (left.length : Int) then (if rd left i < w then some none else takeB (left.set i.toNat (wrap64 (rd left i - w))) E w) else none
/-- Price by price. -/
def provesL (k : Nat) (n : Int) (l : List S30) : List S41 → List Int → (Int → Bool) → Int → Option (Int × Bool × Int)
  | [], _, _, worth => some (worth, true, 0)
  | p :: ps, left, met, worth => (branch_town_isSet.f n l p.f0).bind fun b => if (!b || decide (p.f1 < 1) || decide (1000 < p.f1) || met p.f0) = true then some (0, false, 0) else
      (branch_town_entering.f k n l p.f0).bind fun E => if E.length < 17592186044416 then (takeB left E p.f1).bind fun o => match o with
        | none => some (0, false, 0)
        | some left' => provesL k n l ps left' (fun j => decide (j = p.f0) || met j) (wrap64 (worth + p.f1)) else none
def branch_Proves.f (k : Nat) (a0 : Int) (l1 : List S30) (l2 : List S41) : Option (Int × Bool × Int) :=
  if l2.length < 17592186044416 then if readB a0 l1 = 0 then (branch_town_costs.f k a0 l1).bind fun left => provesL k a0 l1 l2 left (fun _ => false) 0 else some (0, false, readB a0 l1) else none
theorem provesL_mono (k : Nat) (n : Int) (l : List S30) : ∀ ps left met worth, LeO (provesL k n l ps left met worth) (provesL (k + 1) n l ps left met worth)
  | [], _, _, _ => LeO.refl _
  | p :: ps, left, met, worth => by
    unfold provesL
    refine LeO.bind (LeO.refl _) fun b => ?_
    refine LeO.ite (LeO.refl _) ?_
    refine LeO.bind (branch_town_entering.mono _ _ _ k) fun E => ?_
    refine LeO.ite ?_ (LeO.refl _)
    refine LeO.bind (LeO.refl _) fun o => ?_
    cases o with
    | none => exact LeO.refl _
    | some left' => exact provesL_mono k n l ps left' _ _
theorem branch_Proves.mono : ∀ a0 a1 a2 k, LeO (branch_Proves.f k a0 a1 a2) (branch_Proves.f (k + 1) a0 a1 a2) := by
  intro a0 a1 a2 k
  unfold branch_Proves.f
  refine LeO.ite ?_ (LeO.refl _)
  refine LeO.ite ?_ (LeO.refl _)
  exact LeO.bind (branch_town_costs.mono _ _ k) fun left => provesL_mono k a0 a1 a2 left _ _
theorem drop_rd41 (ps : List S41) (i : Nat) (h : i < ps.length) : ps.drop i = rd_T41 ps (i : Int) :: ps.drop (i + 1) := by
  rw [List.drop_eq_getElem_cons h]
  simp [rd_T41, List.getD, List.getElem?_eq_getElem h]
theorem drop_rdI (ps : List Int) (i : Nat) (h : i < ps.length) : ps.drop i = rd ps (i : Int) :: ps.drop (i + 1) := by
  rw [List.drop_eq_getElem_cons h]
  simp [rd, List.getD, List.getElem?_eq_getElem h]
theorem val_succ2 (i : Nat) (h : i < 17592186044416) : Value.int .i64 (wrap64 ((i : Int) + 1)) = Value.int .i64 ((i + 1 : Nat) : Int) := by rw [show wrap64 ((i : Int) + 1) = ((i + 1 : Nat) : Int) from by unfold wrap64; omega]
theorem takeB_length : ∀ (E : List Int) (left left' : List Int) (w : Int), takeB left E w = some (some left') → left'.length = left.length
  | [], left, left', w, h => by simp [takeB] at h; rw [h]
  | i :: E, left, left', w, h => by
    unfold takeB at h
    split at h
    · split at h
      · simp at h
      · rw [takeB_length E _ _ _ h]; simp
    · simp at h
theorem update_event {P : Program} {ops : Array Oper} {rest : List Oper} {o : Oper} {a : Act} {Q : Exit → Act → World → Prop} {w : World} {m mt kt et : Nat} {g : Int → Bool} (hM : SetM w m g) (ht : P.underlying mt = some (.map kt et)) (hk : P.underlying kt = some (.int .i64))
    (hg : o.guard = none) (mo xo vo : Operand) (hop : o.op = Op.mapUpdate mt mo xo vo) {i : Int} (hm : a.eval mo = .map (some m)) (hx : a.eval xo = .int .i64 i) (hv : a.eval vo = .bool true)
    (hK : ∀ w2, SetM w2 m (fun j => decide (j = i) || g j) → w.grownBy w2 (some m) → wpList P ops Q rest (a.put o.dst undef) w2) : wpList P ops Q (o :: rest) a w := by
  refine wpList_plain hg fun K' hK' => ?_
  obtain ⟨w2, hrun, r1, r2⟩ := hM.update ht hk i
  unfold Oper.wp
  simp [execOp, hop, hm, hx, hv, hrun, Result.andThen]
  exact hK' _ _ (hK w2 r1 r2)
/-- A row of cells stands where a map is written. -/
theorem Kd.R_map {α : Type} {d : Kd α} {e base m : Nat} {ok : Nat → Prop} {w w2 : World} {v : Value} {xs : List α} {g : Int → Bool} (h : d.R e w base ok v xs) (hM : SetM w m g) (hg : w.grownBy w2 (some m)) : d.R e w2 base ok v xs := by
  refine Kd.R_mono (Kd.R_grown (Kd.R_bound h) hg (fun k hk he => ?_)) (fun _ hk => hk.1)
  obtain ⟨_, _, _, q, _, cells, hc⟩ := hk
  injection he with he
  subst he
  exact hM.ne_cells hc rfl
/-- A row that was made behind a block stands where that block is written. -/
theorem Kd.R_low {α : Type} {d : Kd α} {e base : Nat} {ok : Nat → Prop} {w : World} {v : Value} {xs : List α} (h : d.R e w base ok v xs) {p : Addr} (hp : p.block < base) (u : Value) : d.R e (w.setCell p u) base ok v xs :=
  Kd.R_mono (Kd.R_far (Kd.R_bound h) (fun k hk => by have := hk.2.1; omega) u) (fun _ hk => hk.1)
theorem SetM.set {w : World} {m : Nat} {g : Int → Bool} (h : SetM w m g) {a i : Nat} {cs : Array Value} {t : TypeId} {fr : Nat × Nat} (hb : w.heap[a]? = some (.cells cs t fr)) (u : Value) : SetM (w.setCell ⟨a, i, none⟩ u) m g := h.far (p := ⟨a, i, none⟩) (h.ne_cells hb) u
theorem SetM.self {w : World} {m : Nat} {g : Int → Bool} (_ : SetM w m g) : Below w.heap.size w w := Below.refl _ _

set_option maxHeartbeats 8000000 in
set_option maxRecDepth 100000 in
theorem branch_Proves.calls (k : Nat) (a0 : Int) (A1 : Option Addr) (c1 : Nat) (l1 : List S30) (A2 : Option Addr) (c2 : Nat) (l2 : List S41) (r1 : Int) (r2 : Bool) (r3 : Int) (w : World) (hr1 : Kd.C k30 w A1 l1.length l1) (hc1 : l1.length ≤ c1) (hr2 : Kd.C k41 w A2 l2.length l2) (hc2 : l2.length ≤ c2) (h : branch_Proves.f k a0 l1 l2 = some (r1, r2, r3)) :
    Calls Try.prog 37 #[.int .i64 a0, .slice A1 l1.length c1, .slice A2 l2.length c2] w fun e w' => e = .returned (.tuple #[.int .i64 r1, .bool r2, .int .i64 r3]) ∧ Below w.heap.size w w' := by
  have hu41 := Try.underlying41
  have HR1 := Aside0.mk hr1
  have HC1 := Aside0.mk hc1
  have HR2 := Aside0.mk hr2
  have HC2 := Aside0.mk hc2
  clear hr1 hc1 hr2 hc2
  have HB := Aside0.mk (Below.refl w.heap.size w)
  unfold branch_Proves.f at h
  split at h
  case isFalse => exact absurd h (by simp)
  rename_i hlen
  have HLEN := Aside0.mk hlen
  clear hlen
  obtain ⟨t, ht⟩ : ∃ t, readB a0 l1 = t := ⟨_, rfl⟩
  rw [ht] at h
  have HT0 := Aside0.mk (show branch_read.f a0 l1 = some t by unfold branch_read.f; rw [ht])
  clear ht
  by_cases c3 : t = 0
  case neg =>
    rw [if_neg c3] at h
    have c3b : (t == 0) = false := beq_eq_false_iff_ne.mpr c3
    have c3c : (t != 0) = true := bne_iff_ne.mpr c3
    simp only [Option.some.injEq, Prod.mk.injEq] at h
    obtain ⟨rfl, rfl, rfl⟩ := h
    clear c3
    go_enter Try.func37, Try.ntmps37
    go_wp2_with (first | (go_at_call 44; (refine (branch_read.calls_err a0 A1 c1 l1 t _ HR1.out HC1.out HT0.out (by assumption)).mono ?_); rintro e w1 ⟨rfl, hb⟩; clear HB; have HB := Aside0.mk hb; clear hb))
    go_ret3
    exact ⟨by first | rfl | (simp; done), HB.out⟩
  rw [if_pos c3] at h
  have c3b : (t == 0) = true := beq_iff_eq.mpr c3
  have c3c : (t != 0) = false := bne_eq_false_iff_eq.mpr c3
  clear c3
  obtain ⟨left0, hl0, H⟩ := Option.bind_eq_some_iff.1 h
  have HL0 := Aside0.mk hl0
  have H0 := Aside0.mk H
  clear h hl0 H
  go_enter Try.func37, Try.ntmps37
  go_wp2_with (first | (go_at_call 44; (refine (branch_read.calls_ok a0 A1 c1 l1 t _ HR1.out HC1.out HT0.out (by assumption)).mono ?_); rintro e w1 ⟨gt, mr, rfl, hg, hbox, hb⟩; have GT := Aside0.mk hg; have HT := Aside0.mk hbox; clear HB; have HB := Aside0.mk hb; clear hg hbox hb) | (go_at_call 47; (refine (branch_town_costs.calls k gt a0 A1 c1 l1 mr left0 _ HT.out (Kd.C_below HR1.out HB.out) HC1.out HL0.out).mono ?_); rintro e w2 ⟨vl, rfl, ho, hb⟩; obtain ⟨Al, cl, rfl⟩ := Kd.R_slice ho; have HO := Aside0.mk (Kd.R_lower ho (below_size HB.out)); have n0_ := Aside0.mk (blk_below HT.out hb); have n1_ := Aside0.mk (below_step HB.out hb); clear HT HB; have HT := n0_; have HB := n1_; clear n0_ n1_ ho hb) | ((with_reducible refine gate_dst (N := 29) rfl ?_); refine map_event ?hg (N := 29) ?hd ?hr ?_; (case hd => rfl); (case hg => rfl); (case hr => rfl); intro m hm w3 hmap hb; have HM := Aside0.mk (SetM.new hmap); have n0_ := Aside0.mk (Kd.R_below (by (with_reducible repeat (first | apply Kd.R_alloc | apply Kd.R_drewN | apply Kd.R_drew)); exact HO.out) hb); have n1_ := Aside0.mk (blk_below (by (with_reducible repeat (first | refine blk_drewN ?_ _ | refine blk_drew ?_ | refine blk_alloc ?_ _)); exact HT.out) hb); have n2_ := Aside0.mk (below_step (by repeat (first | (with_reducible first | exact HB.out | apply below_alloc | apply pw_below_drewN | apply below_drew1) | exact HB.out)) hb); have GM := Aside0.mk ((by rw [hm]; exact (below_size (by repeat (first | (with_reducible first | exact HB.out | apply below_alloc | apply pw_below_drewN | apply below_drew1) | exact HB.out)))) : w.heap.size ≤ m); clear HO HT HB; have HO := n0_; have HT := n1_; have HB := n2_; clear n0_ n1_ n2_ hm hmap hb))
  go_loopg [13, 32] l2.length (fun kq v13 v32 w' => ∃ (i : Nat) (left : List Int) (met : Int → Bool) (worth : Int), v32 = .int .i64 (i : Int) ∧ v13 = .int .i64 worth ∧ Aside0 (i + kq = l2.length) ∧ Aside0 (provesL k a0 l1 (l2.drop i) left met worth = some (r1, r2, r3)) ∧ Aside0 (Kd.R (Kd.int .i64) 3 w' w.heap.size (fun _ => True) (.slice Al left0.length cl) left) ∧ Aside0 (SetM w' m met) ∧ Aside0 (w'.heap[gt]? = some (.cells #[.int .i64 a0, .slice A1 l1.length c1, .map mr] 70 (0, 0))) ∧ Aside0 (Below w.heap.size w w'))
  case atStart => exact ⟨0, left0, _, 0, rfl, rfl, ⟨by simp⟩, ⟨H0.out⟩, ⟨by (with_reducible repeat (first | apply Kd.R_alloc | apply Kd.R_drewN | apply Kd.R_drew)); exact HO.out⟩, ⟨HM.out⟩, ⟨by (with_reducible repeat (first | refine blk_drewN ?_ _ | refine blk_drew ?_ | refine blk_alloc ?_ _)); exact HT.out⟩, ⟨by repeat (first | (with_reducible first | exact HB.out | apply below_alloc | apply pw_below_drewN | apply below_drew1) | exact HB.out)⟩⟩
  case round =>
    clear HO HM HT HB H0
    obtain ⟨i, left, met, worth, rfl, rfl, HI, HH, HO, HM, HT, HB⟩ := hrel
    cases gk with
    | zero =>
      have hi := HI.out
      have c4b : decide ((i : Int) < (l2.length : Int)) = false := decide_eq_false (by omega)
      have c4b2 : decide (i < l2.length) = false := decide_eq_false (by omega)
      have hh := HH.out
      rw [List.drop_eq_nil_of_le (by omega)] at hh
      simp only [provesL, Option.some.injEq, Prod.mk.injEq] at hh
      obtain ⟨rfl, rfl, rfl⟩ := hh
      clear hi
      go_wp2
      go_ret3
      exact ⟨by first | rfl | (simp; done), HB.out⟩
    | succ k1 =>
      have hi0 : (0 : Int) ≤ (i : Int) := Int.natCast_nonneg _
      have hi1 : (i : Int) < (l2.length : Int) := by have := HI.out; omega
      have c4b : decide ((i : Int) < (l2.length : Int)) = true := decide_eq_true hi1
      have c4b2 : decide (i < l2.length) = true := decide_eq_true (by omega)
      have hi2 : i < l2.length := by omega
      have hh := HH.out
      rw [drop_rd41 l2 i hi2] at hh
      obtain ⟨ad, e, hx_0, hx_1⟩ := at_T41 HR2.out (i : Int) hi0 hi1
      cases e
      obtain ⟨x, hx⟩ : ∃ x, rd_T41 l2 (i : Int) = x := ⟨_, rfl⟩
      rw [hx] at hx_0 hx_1 hh
      clear hx HH
      simp only [Int.toNat_natCast] at hx_0 hx_1
      replace hx_0 := (HB.out.cell (World.block_lt_of_cell? w _ hx_0)).trans hx_0
      replace hx_1 := (HB.out.cell (World.block_lt_of_cell? w _ hx_1)).trans hx_1
      replace hi0 := eq_true hi0
      replace hi1 := eq_true hi1
      replace hi2 := eq_true hi2
      unfold provesL at hh
      obtain ⟨bs, hbs, hh⟩ := Option.bind_eq_some_iff.1 hh
      have HBS := Aside0.mk hbs
      have HH := Aside0.mk hh
      clear hbs hh
      have HB0 := Aside0.mk HM.out.self
      go_upto_region 10 with (fail)
      (try simp only [Act.put, List.setIfInBounds_toArray, List.set_cons_zero, List.set_cons_succ])
      obtain ⟨gb, hgb⟩ : ∃ gb, wr.heap.size = gb := ⟨_, rfl⟩
      rw [hgb]
      obtain ⟨wq, hwq⟩ : ∃ wq, wr.alloc (.cells #[.int .i64 x.f0, .int .i64 x.f1] 41) = wq := ⟨_, rfl⟩
      rw [hwq]
      have HB1 := Aside0.mk (hwq ▸ below_alloc HB0.out _ : Below wr.heap.size wr wq)
      have BK := Aside0.mk (hgb ▸ hwq ▸ heap_alloc_new wr _ : wq.heap[gb]? = some (.cells #[.int .i64 x.f0, .int .i64 x.f1] 41 (0, 0)))
      have GEB := Aside0.mk (hgb ▸ HB.out.size : w.heap.size ≤ gb)
      have n0_ := Aside0.mk (below_step HB.out HB1.out)
      have n1_ := Aside0.mk (blk_below HT.out HB1.out)
      have n2_ := Aside0.mk (HM.out.below HB1.out)
      have n3_ := Aside0.mk (Kd.R_below HO.out HB1.out)
      clear hgb hwq HB HT HM HO HB0 HB1 hx_0 hx_1
      have HB := n0_; have HT := n1_; have HM := n2_; have HO := n3_
      clear n0_ n1_ n2_ n3_
      have hb_0 : wq.cell? ⟨gb, 0, none⟩ = some (.int .i64 x.f0) := (blk_cell BK.out 0).trans rfl
      have hb_1 : wq.cell? ⟨gb, 1, none⟩ = some (.int .i64 x.f1) := (blk_cell BK.out 1).trans rfl
      have hlook : ∀ W, Below wq.heap.size wq W → (Instr.lookup 92 (.map (some m)) (.int .i64 x.f0) false).run Try.prog W = .ok (.bool (met x.f0)) W := fun W hW => (HM.out.below hW).lookup Try.underlying92 Try.underlying3 x.f0 (by first | rfl | (go_simp; done))
      have HLK := Aside0.mk hlook
      clear hlook
      obtain ⟨bm, hbm⟩ : ∃ bm, met x.f0 = bm := ⟨_, rfl⟩
      rw [hbm] at HLK HH
      have HBM := Aside0.mk hbm
      clear hbm
      obtain ⟨bz, hbz⟩ : ∃ bz, (!bs || decide (x.f1 < 1) || decide (1000 < x.f1) || bm) = bz := ⟨_, rfl⟩
      rw [hbz] at HH
      have HBZ := Aside0.mk hbz
      clear hbz
      go_cut [56] (fun v56 wc => ∃ b, v56 = .bool b ∧ Aside0 (b = bz) ∧ Aside0 (wc.heap[gb]? = some (.cells #[.int .i64 x.f0, .int .i64 x.f1] 41 (0, 0))) ∧ Aside0 (Kd.R (Kd.int .i64) 3 wc w.heap.size (fun _ => True) (.slice Al left0.length cl) left) ∧ Aside0 (SetM wc m met) ∧ Aside0 (wc.heap[gt]? = some (.cells #[.int .i64 a0, .slice A1 l1.length c1, .map mr] 70 (0, 0))) ∧ Aside0 (Below w.heap.size w wc))
      case first =>
        cases bs with
        | false =>
          go_wp2_with (first | (go_at_call 58; (refine (branch_town_isSet.calls gt a0 A1 c1 l1 mr x.f0 _ _ HT.out (Kd.C_below HR1.out HB.out) HC1.out HBS.out).mono ?_); rintro e w5 ⟨rfl, hdr⟩; obtain ⟨n_, hw5⟩ := hdr.out; have hb : Below wq.heap.size wq w5 := (by rw [hw5]; exact pw_below_drewN (Below.refl _ _) n_); clear hw5 hdr; have n0_ := Aside0.mk (Kd.R_below HO.out hb); have n1_ := Aside0.mk (blk_below HT.out hb); have n2_ := Aside0.mk (HM.out.below hb); have n3_ := Aside0.mk (below_step HB.out hb); have n4_ := Aside0.mk (blk_below BK.out hb); have hlk := HLK.out w5 hb; clear HO HT HM HB BK hb hb_0 hb_1; have HO := n0_; have HT := n1_; have HM := n2_; have HB := n3_; have BK := n4_; clear n0_ n1_ n2_ n3_ n4_; have hb_0 : w5.cell? ⟨gb, 0, none⟩ = some (.int .i64 x.f0) := (blk_cell BK.out 0).trans rfl; have hb_1 : w5.cell? ⟨gb, 1, none⟩ = some (.int .i64 x.f1) := (blk_cell BK.out 1).trans rfl))
          go_meet
          case rel => exact ⟨_, rfl, ⟨by rw [← HBZ.out]; simp only [Bool.not_false, Bool.true_or]; first | done | rfl | simp⟩, BK, HO, HM, HT, HB⟩
        | true =>
          by_cases t0 : x.f1 < 1
          · have s0 : decide (x.f1 < 1) = true := decide_eq_true t0
            clear t0
            go_wp2_with (first | (go_at_call 58; (refine (branch_town_isSet.calls gt a0 A1 c1 l1 mr x.f0 _ _ HT.out (Kd.C_below HR1.out HB.out) HC1.out HBS.out).mono ?_); rintro e w5 ⟨rfl, hdr⟩; obtain ⟨n_, hw5⟩ := hdr.out; have hb : Below wq.heap.size wq w5 := (by rw [hw5]; exact pw_below_drewN (Below.refl _ _) n_); clear hw5 hdr; have n0_ := Aside0.mk (Kd.R_below HO.out hb); have n1_ := Aside0.mk (blk_below HT.out hb); have n2_ := Aside0.mk (HM.out.below hb); have n3_ := Aside0.mk (below_step HB.out hb); have n4_ := Aside0.mk (blk_below BK.out hb); have hlk := HLK.out w5 hb; clear HO HT HM HB BK hb hb_0 hb_1; have HO := n0_; have HT := n1_; have HM := n2_; have HB := n3_; have BK := n4_; clear n0_ n1_ n2_ n3_ n4_; have hb_0 : w5.cell? ⟨gb, 0, none⟩ = some (.int .i64 x.f0) := (blk_cell BK.out 0).trans rfl; have hb_1 : w5.cell? ⟨gb, 1, none⟩ = some (.int .i64 x.f1) := (blk_cell BK.out 1).trans rfl))
            go_meet
            case rel => exact ⟨_, rfl, ⟨by rw [← HBZ.out]; simp only [Bool.not_true, Bool.false_or, Bool.or_true, Bool.true_or, s0]; first | done | rfl | simp⟩, BK, HO, HM, HT, HB⟩
          have s0 : decide (x.f1 < 1) = false := decide_eq_false t0
          clear t0
          by_cases t1 : 1000 < x.f1
          · have s1 : decide (1000 < x.f1) = true := decide_eq_true t1
            clear t1
            go_wp2_with (first | (go_at_call 58; (refine (branch_town_isSet.calls gt a0 A1 c1 l1 mr x.f0 _ _ HT.out (Kd.C_below HR1.out HB.out) HC1.out HBS.out).mono ?_); rintro e w5 ⟨rfl, hdr⟩; obtain ⟨n_, hw5⟩ := hdr.out; have hb : Below wq.heap.size wq w5 := (by rw [hw5]; exact pw_below_drewN (Below.refl _ _) n_); clear hw5 hdr; have n0_ := Aside0.mk (Kd.R_below HO.out hb); have n1_ := Aside0.mk (blk_below HT.out hb); have n2_ := Aside0.mk (HM.out.below hb); have n3_ := Aside0.mk (below_step HB.out hb); have n4_ := Aside0.mk (blk_below BK.out hb); have hlk := HLK.out w5 hb; clear HO HT HM HB BK hb hb_0 hb_1; have HO := n0_; have HT := n1_; have HM := n2_; have HB := n3_; have BK := n4_; clear n0_ n1_ n2_ n3_ n4_; have hb_0 : w5.cell? ⟨gb, 0, none⟩ = some (.int .i64 x.f0) := (blk_cell BK.out 0).trans rfl; have hb_1 : w5.cell? ⟨gb, 1, none⟩ = some (.int .i64 x.f1) := (blk_cell BK.out 1).trans rfl))
            go_meet
            case rel => exact ⟨_, rfl, ⟨by rw [← HBZ.out]; simp only [Bool.not_true, Bool.false_or, Bool.or_true, Bool.true_or, s0, s1]; first | done | rfl | simp⟩, BK, HO, HM, HT, HB⟩
          have s1 : decide (1000 < x.f1) = false := decide_eq_false t1
          clear t1
          cases bm with
          | true =>
            go_wp2_with (first | (go_at_call 58; (refine (branch_town_isSet.calls gt a0 A1 c1 l1 mr x.f0 _ _ HT.out (Kd.C_below HR1.out HB.out) HC1.out HBS.out).mono ?_); rintro e w5 ⟨rfl, hdr⟩; obtain ⟨n_, hw5⟩ := hdr.out; have hb : Below wq.heap.size wq w5 := (by rw [hw5]; exact pw_below_drewN (Below.refl _ _) n_); clear hw5 hdr; have n0_ := Aside0.mk (Kd.R_below HO.out hb); have n1_ := Aside0.mk (blk_below HT.out hb); have n2_ := Aside0.mk (HM.out.below hb); have n3_ := Aside0.mk (below_step HB.out hb); have n4_ := Aside0.mk (blk_below BK.out hb); have hlk := HLK.out w5 hb; clear HO HT HM HB BK hb hb_0 hb_1; have HO := n0_; have HT := n1_; have HM := n2_; have HB := n3_; have BK := n4_; clear n0_ n1_ n2_ n3_ n4_; have hb_0 : w5.cell? ⟨gb, 0, none⟩ = some (.int .i64 x.f0) := (blk_cell BK.out 0).trans rfl; have hb_1 : w5.cell? ⟨gb, 1, none⟩ = some (.int .i64 x.f1) := (blk_cell BK.out 1).trans rfl))
            go_meet
            case rel => exact ⟨_, rfl, ⟨by rw [← HBZ.out]; simp only [Bool.not_true, Bool.false_or, Bool.or_true, s0, s1]; first | done | rfl | simp⟩, BK, HO, HM, HT, HB⟩
          | false =>
            go_wp2_with (first | (go_at_call 58; (refine (branch_town_isSet.calls gt a0 A1 c1 l1 mr x.f0 _ _ HT.out (Kd.C_below HR1.out HB.out) HC1.out HBS.out).mono ?_); rintro e w5 ⟨rfl, hdr⟩; obtain ⟨n_, hw5⟩ := hdr.out; have hb : Below wq.heap.size wq w5 := (by rw [hw5]; exact pw_below_drewN (Below.refl _ _) n_); clear hw5 hdr; have n0_ := Aside0.mk (Kd.R_below HO.out hb); have n1_ := Aside0.mk (blk_below HT.out hb); have n2_ := Aside0.mk (HM.out.below hb); have n3_ := Aside0.mk (below_step HB.out hb); have n4_ := Aside0.mk (blk_below BK.out hb); have hlk := HLK.out w5 hb; clear HO HT HM HB BK hb hb_0 hb_1; have HO := n0_; have HT := n1_; have HM := n2_; have HB := n3_; have BK := n4_; clear n0_ n1_ n2_ n3_ n4_; have hb_0 : w5.cell? ⟨gb, 0, none⟩ = some (.int .i64 x.f0) := (blk_cell BK.out 0).trans rfl; have hb_1 : w5.cell? ⟨gb, 1, none⟩ = some (.int .i64 x.f1) := (blk_cell BK.out 1).trans rfl))
            go_meet
            case rel => exact ⟨_, rfl, ⟨by rw [← HBZ.out]; simp only [Bool.not_true, Bool.false_or, Bool.or_false, s0, s1]; first | done | rfl | simp⟩, BK, HO, HM, HT, HB⟩
      case rest =>
        clear BK HO HT HM HB hb_0 hb_1 HLK
        obtain ⟨b, rfl, hbb, BK, HO, HM, HT, HB⟩ := hcut
        obtain rfl := hbb.out
        clear hbb HBZ
        have hh := HH.out
        clear HH
        cases b with
        | true =>
          rw [if_pos rfl] at hh
          simp only [Option.some.injEq, Prod.mk.injEq] at hh
          obtain ⟨rfl, rfl, rfl⟩ := hh
          go_wp2
          go_ret3
          exact ⟨by first | rfl | (simp; done), HB.out⟩
        | false =>
          rw [if_neg (by decide)] at hh
          obtain ⟨E, hE, hh⟩ := Option.bind_eq_some_iff.1 hh
          by_cases hEl : E.length < 17592186044416
          case neg => rw [if_neg hEl] at hh; exact absurd hh (by simp)
          rw [if_pos hEl] at hh
          obtain ⟨o, ho, hh⟩ := Option.bind_eq_some_iff.1 hh
          have HEL := Aside0.mk hEl
          have HEE := Aside0.mk hE
          have HTK := Aside0.mk ho
          have HH := Aside0.mk hh
          clear hEl hE ho hh
          have hb_0 : wc.cell? ⟨gb, 0, none⟩ = some (.int .i64 x.f0) := (blk_cell BK.out 0).trans rfl
          have hb_1 : wc.cell? ⟨gb, 1, none⟩ = some (.int .i64 x.f1) := (blk_cell BK.out 1).trans rfl
          go_wp2_with (first | (at_mapUpdate; refine update_event HM.out Try.underlying92 Try.underlying3 rfl _ _ _ rfl (i := x.f0) rfl rfl rfl ?_; intro w6 hm6 hg6; have n0_ := Aside0.mk (Kd.R_map HO.out HM.out hg6); have n1_ := Aside0.mk (blk_grown HT.out hg6 (by have := HM.out.ne_cells HT.out; intro h; injection h with h; exact this h.symm)); have n2_ := Aside0.mk (blk_grown BK.out hg6 (by have := HM.out.ne_cells BK.out; intro h; injection h with h; exact this h.symm)); have n3_ := Aside0.mk (HB.out.grown hg6 HB.out.size (fun j hj => by cases hj; exact GM.out)); clear HO HT BK HB HM hb_0 hb_1; have HO := n0_; have HT := n1_; have BK := n2_; have HB := n3_; have HM := Aside0.mk hm6; clear n0_ n1_ n2_ n3_ hm6 hg6; have hb_0 : w6.cell? ⟨gb, 0, none⟩ = some (.int .i64 x.f0) := (blk_cell BK.out 0).trans rfl; have hb_1 : w6.cell? ⟨gb, 1, none⟩ = some (.int .i64 x.f1) := (blk_cell BK.out 1).trans rfl) | (go_at_call 59; (refine (branch_town_entering.calls k gt a0 A1 c1 l1 mr x.f0 E _ HT.out (Kd.C_below HR1.out HB.out) HC1.out HEE.out).mono ?_); rintro e w7 ⟨ve, rfl, hoe, hb⟩; obtain ⟨Ae, ce, rfl⟩ := Kd.R_slice hoe; have hlt := Kd.R_lt HO.out; obtain ⟨nb, hnb⟩ : ∃ nb, w6.heap.size = nb := ⟨_, rfl⟩; rw [hnb] at hoe hlt; have HE := Aside0.mk hoe; have HLT := Aside0.mk hlt; have n0_ := Aside0.mk (Kd.R_below HO.out hb); have n1_ := Aside0.mk (blk_below HT.out hb); have n2_ := Aside0.mk (HM.out.below hb); have n3_ := Aside0.mk (below_step HB.out hb); have n4_ := Aside0.mk (blk_below BK.out hb); clear HO HT HM HB BK hb hb_0 hb_1 hoe hlt hnb; have HO := n0_; have HT := n1_; have HM := n2_; have HB := n3_; have BK := n4_; clear n0_ n1_ n2_ n3_ n4_; have hb_0 : w7.cell? ⟨gb, 0, none⟩ = some (.int .i64 x.f0) := (blk_cell BK.out 0).trans rfl; have hb_1 : w7.cell? ⟨gb, 1, none⟩ = some (.int .i64 x.f1) := (blk_cell BK.out 1).trans rfl))
          go_loopg [65] E.length (fun kq v65 w' => ∃ (j : Nat) (lf : List Int), v65 = .int .i64 (j : Int) ∧ Aside0 (j + kq = E.length) ∧ Aside0 (takeB lf (E.drop j) x.f1 = some o) ∧ Aside0 (Kd.R (Kd.int .i64) 3 w' w.heap.size (fun _ => True) (.slice Al left0.length cl) lf) ∧ Aside0 (Kd.R (Kd.int .i64) 3 w' nb (fun _ => True) (.slice Ae E.length ce) E) ∧ Aside0 (SetM w' m (fun j => decide (j = x.f0) || met j)) ∧ Aside0 (w'.heap[gt]? = some (.cells #[.int .i64 a0, .slice A1 l1.length c1, .map mr] 70 (0, 0))) ∧ Aside0 (w'.heap[gb]? = some (.cells #[.int .i64 x.f0, .int .i64 x.f1] 41 (0, 0))) ∧ Aside0 (Below w.heap.size w w'))
          case atStart => exact ⟨0, left, rfl, ⟨by simp⟩, ⟨HTK.out⟩, ⟨by (with_reducible repeat (first | apply Kd.R_alloc | apply Kd.R_drewN | apply Kd.R_drew)); exact HO.out⟩, ⟨by (with_reducible repeat (first | apply Kd.R_alloc | apply Kd.R_drewN | apply Kd.R_drew)); exact HE.out⟩, HM, ⟨by (with_reducible repeat (first | refine blk_drewN ?_ _ | refine blk_drew ?_ | refine blk_alloc ?_ _)); exact HT.out⟩, ⟨by (with_reducible repeat (first | refine blk_drewN ?_ _ | refine blk_drew ?_ | refine blk_alloc ?_ _)); exact BK.out⟩, ⟨by repeat (first | (with_reducible first | exact HB.out | apply below_alloc | apply pw_below_drewN | apply below_drew1) | exact HB.out)⟩⟩
          case round =>
            clear HO HM HT HB BK HE hb_0 hb_1 HTK
            obtain ⟨j, lf, rfl, HJ, HTK, HO, HE, HM, HT, BK, HB⟩ := hrel
            have hb_0 : wr.cell? ⟨gb, 0, none⟩ = some (.int .i64 x.f0) := (blk_cell BK.out 0).trans rfl
            have hb_1 : wr.cell? ⟨gb, 1, none⟩ = some (.int .i64 x.f1) := (blk_cell BK.out 1).trans rfl
            cases gk with
            | zero =>
              have hj := HJ.out
              have d4b : decide ((j : Int) < (E.length : Int)) = false := decide_eq_false (by omega)
              have d4b2 : decide (j < E.length) = false := decide_eq_false (by omega)
              have hh := HTK.out
              rw [List.drop_eq_nil_of_le (by omega)] at hh
              simp only [takeB, Option.some.injEq] at hh
              subst hh
              clear hj
              go_wp2
              go_roundg k1
              case measure => omega
              case rel => exact ⟨i + 1, lf, _, wrap64 (worth + x.f1), val_succ2 i (by have := HI.out; have := HLEN.out; omega), by first | rfl | (simp; done), ⟨by have := HI.out; omega⟩, ⟨HH.out⟩, ⟨by (with_reducible repeat (first | apply Kd.R_alloc | apply Kd.R_drewN | apply Kd.R_drew)); exact HO.out⟩, ⟨HM.out⟩, ⟨by (with_reducible repeat (first | refine blk_drewN ?_ _ | refine blk_drew ?_ | refine blk_alloc ?_ _)); exact HT.out⟩, ⟨by repeat (first | (with_reducible first | exact HB.out | apply below_alloc | apply pw_below_drewN | apply below_drew1) | exact HB.out)⟩⟩
            | succ k2 =>
              have hj0 : (0 : Int) ≤ (j : Int) := Int.natCast_nonneg _
              have hj1 : (j : Int) < (E.length : Int) := by have := HJ.out; omega
              have d4b : decide ((j : Int) < (E.length : Int)) = true := decide_eq_true hj1
              have hj2 : j < E.length := by omega
              have d4b2 : decide (j < E.length) = true := decide_eq_true hj2
              have hh := HTK.out
              rw [drop_rdI E j hj2] at hh
              obtain ⟨ade, e, hy_0⟩ := Kd.at_int (Kd.R_reads' HE.out).2.2 (j : Int) hj0 hj1
              cases e
              obtain ⟨y, hy⟩ : ∃ y, rd E (j : Int) = y := ⟨_, rfl⟩
              rw [hy] at hy_0 hh
              simp only [Int.toNat_natCast] at hy_0
              clear hy HTK
              replace hj0 := eq_true hj0
              replace hj1 := eq_true hj1
              replace hj2 := eq_true hj2
              unfold takeB at hh
              by_cases hr : 0 ≤ y ∧ y < (lf.length : Int)
              case neg => rw [if_neg hr] at hh; exact absurd hh (by simp)
              rw [if_pos hr] at hh
              obtain ⟨y0, y1⟩ := hr
              have hlen : left0.length = lf.length := (Kd.R_reads' HO.out).1
              obtain ⟨go, cap, eo, gbo, glo, clo, hgo⟩ := Kd.R_form HO.out (by omega)
              injection eo with ea_ en_ ec_
              subst ea_ ec_
              clear en_
              have GO := Aside0.mk gbo
              have GC := Aside0.mk hgo
              have GN := Aside0.mk (HLT.out go rfl)
              have y1' : y < (left0.length : Int) := by rw [hlen]; exact y1
              obtain ⟨hc, hf⟩ := Kd.R_celln 0 HO.out y y0 y1'
              replace hc := (show wr.cell? ⟨go, y.toNat, none⟩ = some (.int .i64 (rd lf y)) from hc)
              have HLE := Aside0.mk hlen
              clear hlen gbo glo hgo y1
              obtain ⟨z, hz⟩ : ∃ z, rd lf y = z := ⟨_, rfl⟩
              rw [hz] at hc hh
              clear hz
              have y0b := eq_true y0
              have y1b := eq_true y1'
              by_cases t3 : z < x.f1
              · rw [if_pos t3] at hh
                have s3 : decide (z < x.f1) = true := decide_eq_true t3
                clear t3
                obtain rfl := Option.some.inj hh
                have h3 := HH.out
                simp only [Option.some.injEq, Prod.mk.injEq] at h3
                obtain ⟨rfl, rfl, rfl⟩ := h3
                go_wp2_with fail
                go_region_held3 (fun w' => w'.cell? ⟨go, y.toNat, none⟩ = some (.int .i64 z) ∧ w'.cell? ⟨gb, 1, none⟩ = some (.int .i64 x.f1)) (go_keep) (fail)
                all_goals go_wp2
                go_ret3
                exact ⟨by first | rfl | (simp; done), by repeat (first | (with_reducible first | exact HB.out | apply below_alloc | apply pw_below_drewN | apply below_drew1) | exact HB.out)⟩
              rw [if_neg t3] at hh
              have s3 : decide (z < x.f1) = false := decide_eq_false t3
              clear t3
              have HTK := Aside0.mk hh
              clear hh
              go_wp2_with fail
              go_region_held3 (fun w' => w'.cell? ⟨go, y.toNat, none⟩ = some (.int .i64 z) ∧ w'.cell? ⟨gb, 1, none⟩ = some (.int .i64 x.f1)) (go_keep) (fail)
              all_goals go_wp2
              have hne : gb ≠ go := blk_ne BK.out GC.out (by decide)
              have hne2 : go ≠ gb := fun h => hne h.symm
              have hnt : gt ≠ go := blk_ne HT.out GC.out (by decide)
              go_region_with (fail)
              all_goals (go_wp2; go_roundg k2; (case measure => omega); (case rel => exact ⟨j + 1, lf.set y.toNat (wrap64 (z - x.f1)), val_succ2 j (by have := HJ.out; have := HEL.out; omega), ⟨by have := HJ.out; omega⟩, HTK, ⟨by (try simp only [i64_w]); (with_reducible repeat (first | apply Kd.R_alloc | apply Kd.R_drewN | apply Kd.R_drew)); exact Kd.R_putn HO.out y (wrap64 (z - x.f1))⟩, ⟨by (with_reducible repeat (first | apply Kd.R_alloc | apply Kd.R_drewN | apply Kd.R_drew)); exact Kd.R_low HE.out GN.out _⟩, ⟨(SetM.set HM.out GC.out _).of_block rfl⟩, ⟨by (with_reducible repeat (first | refine blk_drewN ?_ _ | refine blk_drew ?_ | refine blk_alloc ?_ _)); exact blk_far HT.out hnt _⟩, ⟨by (with_reducible repeat (first | refine blk_drewN ?_ _ | refine blk_drew ?_ | refine blk_alloc ?_ _)); exact blk_far BK.out hne _⟩, ⟨by repeat (first | (with_reducible first | exact HB.out | apply below_alloc | apply pw_below_drewN | apply below_drew1 | refine below_set ?_ GO.out) | exact HB.out)⟩⟩))
end Go.Proofs.Ytpmadffgdfholaa.B
