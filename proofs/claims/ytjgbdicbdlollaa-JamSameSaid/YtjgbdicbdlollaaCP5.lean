/- Texts behind the row of JamSame, part 5. -/
import Derived.Below
import Derived.Deep.Draws
import Derived.Deep.AppendLies
import Derived.Maps.AppendAt
import Derived.OwnWalk
import Derived.Laws.BytesArg
import Derived.Laws.MakeOwn
import Derived.Laws.OwnMore
import Derived.Deep.OwnRows
import Derived.Tactics
import Derived.Lib.ConvBytes
import Derived.Laws.Slices
import Derived.WalkKit
import Derived.KernelRfl
import Derived.RowKit3
import Derived.Deep.LoopGhost
import Derived.Deep.QuietTactic
import Derived.BigQuiet
import Derived.WideLaws
import Derived.Deep.DeepCutAuto
import Derived.Deep.CutBlock
import Derived.Deep.RegionHeld3
import Derived.Laws.Rows
import Derived.Lib.AppendStr
import Derived.ArgAppend
import Derived.Laws.IdiomCopy
import Derived.RowKit
import Derived.OrdersHeld
import Derived.Laws.BitsLemmas
import Derived.Laws.StructEq
import Derived.Test.YtjgbdicbdlollaaProg
import Derived.WalkSpells
import Derived.MapKept
import Derived.Maps.RangeWalk
import Derived.Shelf.SlSortCmp.SmallK
import Derived.Ground.SlsfProg
import Derived.Deep.Slices
import Derived.Deep.Fields
import Derived.ChangeSame
import Derived.ChangeSlices
import Derived.Sort.LotA
import Derived.OpenShut
import Derived.Test.YtjgbdicbdlollaaCP1
import Derived.Test.YtjgbdicbdlollaaCP2
import Derived.Test.YtjgbdicbdlollaaCP3
import Derived.Test.YtjgbdicbdlollaaCP4
namespace Go.Proofs.Ytjgbdicbdlollaa.B
open Go.RowKit Go.Proofs.YtjgbdicbdlollaaW.PrintWords Go.Proofs.YtjgbdicbdlollaaW.PrintLast Go.Proofs.YtjgbdicbdlollaaW.PrintMore
set_option linter.unusedVariables false
set_option linter.unusedSimpArgs false
/-- What Settled's visitor does to the rows. -/
def visS (k : Nat) (R T : List (List Int)) (s : List (List Int)) (ch : List Int) : Option (List (List Int)) :=
  (jam_game_step.f k R (unitsOf T) (payF T) ch).bind fun nx => if nx = [] then (slices_Clone.f ch).bind fun c => if s.length < 1000000 then some (s ++ [c]) else none else some s
def jam_Settled.f (k : Nat) (R T : List (List Int)) : Option (List (List Int) × Int) :=
  if readOk R T = true then (onF R (visS k R T) R.length 0 (List.replicate R.length 0) []).bind fun q => some (q.2, 0) else some ([], 2)
/-- What Settled's variables say. -/
structure InvS (wG : World) (n1 b5 b6 g : Nat) (R T : List (List Int)) (N0 : Nat) (W : World) (s : List (List Int)) : Prop where
  hB : Below wG.heap.size wG W
  hG : Gm wG g R T
  c5 : W.heap[b5]? = some (.cells #[.pointer (some ⟨g, 0, none⟩)] 82 (0, 0))
  c6 : ∃ vb, W.heap[b6]? = some (.cells #[vb] 39 (0, 0)) ∧ Kd.R (Kd.slice 3 (Kd.int .i64)) 24 W N0 (fun k => N0 ≤ k) vb s
  o5 : wG.heap.size ≤ b5 ∧ b5 < n1
  o6 : wG.heap.size ≤ b6 ∧ b6 < n1
  oN : n1 ≤ N0
section
variable {wG W W' : World} {n1 b5 b6 g N0 : Nat} {R T : List (List Int)} {s : List (List Int)}
theorem InvS.gm (h : InvS wG n1 b5 b6 g R T N0 W s) : Gm W g R T := h.hG.below h.hB
theorem InvS.side (h : InvS wG n1 b5 b6 g R T N0 W s) (hs : Side n1 N0 W W') : InvS wG n1 b5 b6 g R T N0 W' s := by
  obtain ⟨vb, h1, h3⟩ := h.c6
  refine ⟨⟨hs.os.trans h.hB.os, hs.tape.trans h.hB.tape, hs.output.trans h.hB.output, Nat.le_trans h.hB.size hs.size, fun k hk => (hs.blk k (Nat.lt_of_lt_of_le hk h.hB.size) (.inl (by have := h.o5; omega))).trans (h.hB.block k hk)⟩, h.hG, (hs.blk _ (blk_lt h.c5) (.inl h.o5.2)).trans h.c5, ⟨vb, (hs.blk _ (blk_lt h1) (.inl h.o6.2)).trans h1, Kd.R_step h3 (fun k hk hlt => hs.blk k hlt (.inr hk))⟩, h.o5, h.o6, h.oN⟩
theorem InvS.below (h : InvS wG n1 b5 b6 g R T N0 W s) (hb : Below W.heap.size W W') : InvS wG n1 b5 b6 g R T N0 W' s := by
  obtain ⟨vb, h1, h3⟩ := h.c6
  exact ⟨below_step h.hB hb, h.hG, blk_below h.c5 hb, ⟨vb, blk_below h1 hb, Kd.R_below h3 hb⟩, h.o5, h.o6, h.oN⟩
/-- A row more. -/
theorem InvS.put (h : InvS wG n1 b5 b6 g R T N0 W s) (hN : N0 ≤ W.heap.size) (hb : Below N0 W W') {v : Value} {s2 : List (List Int)} (hR : Kd.R (Kd.slice 3 (Kd.int .i64)) 24 W' N0 (fun k => N0 ≤ k) v s2) :
    (∃ vb, W'.heap[b6]? = some (.cells #[vb] 39 (0, 0))) ∧ InvS wG n1 b5 b6 g R T N0 (W'.setCell ⟨b6, 0, none⟩ v) s2 ∧ Mid n1 N0 W (W'.setCell ⟨b6, 0, none⟩ v) := by
  obtain ⟨vb, h1, h3⟩ := h.c6
  have k6 : b6 < N0 := by have := h.o6; have := h.oN; omega
  have k5 : b5 < N0 := by have := h.o5; have := h.oN; omega
  have n56 : b5 ≠ b6 := by
    rintro rfl
    have := h.c5.symm.trans h1
    injection this with this
    injection this with _ this
    exact absurd this (by decide)
  have hk : ∀ k, k ≠ b6 → (W'.setCell ⟨b6, 0, none⟩ v).heap[k]? = W'.heap[k]? := fun k e6 => Below.heap_setCell _ ⟨b6, 0, none⟩ _ k e6
  have hB9 : Below wG.heap.size wG W' := ⟨hb.os.trans h.hB.os, hb.tape.trans h.hB.tape, hb.output.trans h.hB.output, Nat.le_trans h.hB.size hb.size, fun k hk => (hb.block k (by have := h.o5; omega)).trans (h.hB.block k hk)⟩
  have h19 := (hb.block b6 k6).trans h1
  refine ⟨⟨vb, h19⟩, ⟨below_set (j := 0) (v := v) hB9 h.o6.1, h.hG, (hk _ n56).trans ((hb.block b5 k5).trans h.c5), ⟨v, blk_put (cs := #[vb]) h19 0 v rfl, Kd.R_step hR (fun k hk2 _ => hk k (by omega))⟩, h.o5, h.o6, h.oN⟩, ⟨?_, fun k h1 h2 => (hk k (by have := h.o6; omega)).trans (hb.block k h2)⟩⟩
  have := hb.size
  simpa using this
end
def settled1.T1 : Bool × List (List Nat × List Nat) := (true, [([], []), ([], []), ([1], [1]), ([2], [2]), ([0, 3, 2], [0, 3]), ([4, 4, 0, 1, 2, 3, 4], [4])])
def settled1.B1 : List Nat := [0, 0, 2, 6, 15, 31]
theorem settled1.tab1 : rtab .any (opsOf Try.f70 1) = settled1.T1 := by kernel_rfl
theorem settled1.bits1 : waitsOk settled1.T1.2 settled1.B1 = true := by kernel_rfl
end Go.Proofs.Ytjgbdicbdlollaa.B
namespace Go.Proofs.Ytjgbdicbdlollaa.B
open Go.RowKit Go.Proofs.YtjgbdicbdlollaaW.PrintWords Go.Proofs.YtjgbdicbdlollaaW.PrintLast Go.Proofs.YtjgbdicbdlollaaW.PrintMore
set_option linter.unusedVariables false
set_option linter.unusedSimpArgs false
def jam_SettledS.f (k : Nat) (R T : List (List Int)) : Option (List (List Int) × Int) := jam_Settled.f k R T
/-- What Settled's variables say. -/
structure InvT (wG : World) (n1 b5 b6 g : Nat) (R T : List (List Int)) (N0 : Nat) (W : World) (s : List (List Int)) : Prop where
  hB : Below wG.heap.size wG W
  hG : Gm wG g R T
  c5 : W.heap[b5]? = some (.cells #[.pointer (some ⟨g, 0, none⟩)] 82 (0, 0))
  c6 : ∃ vb, W.heap[b6]? = some (.cells #[vb] 39 (0, 0)) ∧ Kd.S (Kd.slice 3 (Kd.int .i64)) 24 W N0 (fun k => N0 ≤ k) vb s
  o5 : wG.heap.size ≤ b5 ∧ b5 < n1
  o6 : wG.heap.size ≤ b6 ∧ b6 < n1
  oN : n1 ≤ N0
section
variable {wG W W' : World} {n1 b5 b6 g N0 : Nat} {R T : List (List Int)} {s : List (List Int)}
theorem InvT.gm (h : InvT wG n1 b5 b6 g R T N0 W s) : Gm W g R T := h.hG.below h.hB
theorem InvT.side (h : InvT wG n1 b5 b6 g R T N0 W s) (hs : Side n1 N0 W W') : InvT wG n1 b5 b6 g R T N0 W' s := by
  obtain ⟨vb, h1, h3⟩ := h.c6
  refine ⟨⟨hs.os.trans h.hB.os, hs.tape.trans h.hB.tape, hs.output.trans h.hB.output, Nat.le_trans h.hB.size hs.size, fun k hk => (hs.blk k (Nat.lt_of_lt_of_le hk h.hB.size) (.inl (by have := h.o5; omega))).trans (h.hB.block k hk)⟩, h.hG, (hs.blk _ (blk_lt h.c5) (.inl h.o5.2)).trans h.c5, ⟨vb, (hs.blk _ (blk_lt h1) (.inl h.o6.2)).trans h1, Kd.S_step h3 (fun k hk hlt => hs.blk k hlt (.inr hk))⟩, h.o5, h.o6, h.oN⟩
theorem InvT.below (h : InvT wG n1 b5 b6 g R T N0 W s) (hb : Below W.heap.size W W') : InvT wG n1 b5 b6 g R T N0 W' s := by
  obtain ⟨vb, h1, h3⟩ := h.c6
  exact ⟨below_step h.hB hb, h.hG, blk_below h.c5 hb, ⟨vb, blk_below h1 hb, Kd.S_below h3 hb⟩, h.o5, h.o6, h.oN⟩
/-- A row more. -/
theorem InvT.put (h : InvT wG n1 b5 b6 g R T N0 W s) (hN : N0 ≤ W.heap.size) (hb : Below N0 W W') {v : Value} {s2 : List (List Int)} (hR : Kd.S (Kd.slice 3 (Kd.int .i64)) 24 W' N0 (fun k => N0 ≤ k) v s2) :
    (∃ vb, W'.heap[b6]? = some (.cells #[vb] 39 (0, 0))) ∧ InvT wG n1 b5 b6 g R T N0 (W'.setCell ⟨b6, 0, none⟩ v) s2 ∧ Mid n1 N0 W (W'.setCell ⟨b6, 0, none⟩ v) := by
  obtain ⟨vb, h1, h3⟩ := h.c6
  have k6 : b6 < N0 := by have := h.o6; have := h.oN; omega
  have k5 : b5 < N0 := by have := h.o5; have := h.oN; omega
  have n56 : b5 ≠ b6 := by
    rintro rfl
    have := h.c5.symm.trans h1
    injection this with this
    injection this with _ this
    exact absurd this (by decide)
  have hk : ∀ k, k ≠ b6 → (W'.setCell ⟨b6, 0, none⟩ v).heap[k]? = W'.heap[k]? := fun k e6 => Below.heap_setCell _ ⟨b6, 0, none⟩ _ k e6
  have hB9 : Below wG.heap.size wG W' := ⟨hb.os.trans h.hB.os, hb.tape.trans h.hB.tape, hb.output.trans h.hB.output, Nat.le_trans h.hB.size hb.size, fun k hk => (hb.block k (by have := h.o5; omega)).trans (h.hB.block k hk)⟩
  have h19 := (hb.block b6 k6).trans h1
  refine ⟨⟨vb, h19⟩, ⟨below_set (j := 0) (v := v) hB9 h.o6.1, h.hG, (hk _ n56).trans ((hb.block b5 k5).trans h.c5), ⟨v, blk_put (cs := #[vb]) h19 0 v rfl, Kd.S_step hR (fun k hk2 _ => hk k (by omega))⟩, h.o5, h.o6, h.oN⟩, ⟨?_, fun k h1 h2 => (hk k (by have := h.o6; omega)).trans (hb.block k h2)⟩⟩
  have := hb.size
  simpa using this
end
def settled2.T1 : Bool × List (List Nat × List Nat) := (true, [([], []), ([], []), ([1], [1]), ([2], [2]), ([0, 3, 2], [0, 3]), ([4, 4, 0, 1, 2, 3, 4], [4])])
def settled2.B1 : List Nat := [0, 0, 2, 6, 15, 31]
theorem settled2.tab1 : rtab .any (opsOf Try.f70 1) = settled2.T1 := by kernel_rfl
theorem settled2.bits1 : waitsOk settled2.T1.2 settled2.B1 = true := by kernel_rfl
set_option maxHeartbeats 8000000 in
set_option maxRecDepth 100000 in
theorem settled2_calls (k : Nat) (wG : World) (n1 b5 b6 g : Nat) (R T : List (List Int)) (N0 : Nat) (W : World) (s s' : List (List Int)) (A : Option Addr) (c : Nat) (l : List Int) (hN : N0 ≤ W.heap.size) (hI : InvT wG n1 b5 b6 g R T N0 W s) (hr : Kd.C (Kd.int .i64) W A l.length l) (hc : l.length ≤ c) (h : visS k R T s l = some s') :
  Calls Try.prog 70 #[.slice A l.length c, .pointer (some ⟨b5, 0, none⟩), .pointer (some ⟨b6, 0, none⟩)] W fun e W' => e = .returned (.tuple #[]) ∧ InvT wG n1 b5 b6 g R T N0 W' s' ∧ Mid n1 N0 W W' := by
 have qT : ∀ (w : World) (a : Option Addr) (n c n' c' : Nat), (binOp .eql 24 (.slice a n c) (.slice none n' c')).run Try.prog w = .ok (.bool a.isNone) w := fun w a n c n' c' => Lib.run_eql_slice_nil w _ _ a n c n' c' Try.underlying24
 unfold visS at h
 obtain ⟨nx, hx, h⟩ := Option.bind_eq_some_iff.1 h
 have HX := Aside0.mk hx
 have HR := Aside0.mk hr
 have HC := Aside0.mk hc
 have HN := Aside0.mk hN
 have HI0 := Aside0.mk hI
 have HB := Aside0.mk (Below.refl W.heap.size W)
 have h5 : W.cell? ⟨b5, 0, none⟩ = some (.pointer (some ⟨g, 0, none⟩)) := (blk_cell hI.c5 0).trans rfl
 clear hx hr hc hN hI
 by_cases hn : nx = []
 case neg =>
  rw [if_neg hn] at h
  obtain rfl := Option.some.inj h
  have HNX := Aside0.mk hn
  clear hn h
  go_enter Try.func70, Try.ntmps70
  go_wp2_with (first | (go_at_call 71; (refine (step_g k g R T A c l nx _ HI0.out.gm HR.out HC.out HX.out).mono ?_); rintro e w3 ⟨v1, rfl, hnil, ho, hb⟩; have HI := Aside0.mk (HI0.out.below hb); clear HB h5; have HB := Aside0.mk hb; clear hb; obtain ⟨g5, cc5, hv5, _⟩ := Kd.R_form ho (List.length_pos_iff.2 HNX.out); subst hv5; clear hnil ho))
  go_end0
  try go_wp2
  first | exact ⟨HI.out, Mid.of_below HB.out HN.out⟩ | exact ⟨by first | rfl | (simp; done), HI.out, Mid.of_below HB.out HN.out⟩
 subst hn
 rw [if_pos rfl] at h
 obtain ⟨c2, hcl, h⟩ := Option.bind_eq_some_iff.1 h
 split at h
 case isFalse => exact absurd h (by simp)
 rename_i hsl
 have HSL := Aside0.mk hsl
 have HCL := Aside0.mk hcl
 have HS := Aside0.mk (Option.some.inj h)
 clear hcl h hsl
 go_enter Try.func70, Try.ntmps70
 go_upto_region 1 with (first | (go_at_call 71; (refine (step_g k g R T A c l [] _ HI0.out.gm HR.out HC.out HX.out).mono ?_); rintro e w3 ⟨v1, rfl, hnil, ho, hb⟩; have HI := Aside0.mk (HI0.out.below hb); clear HB h5; have HB := Aside0.mk hb; clear hb; obtain rfl : v1 = .slice none 0 0 := (by rcases hnil with ⟨h1, _⟩ | h2; exact h1; exact absurd rfl h2); clear hnil ho))
 have n0_ := Aside0.mk (HI.out.below (below_drew1 (Below.refl _ _)))
 have n1_ := Aside0.mk (below_step HB.out (below_drew1 (Below.refl _ w3)))
 clear HI HB
 have HI := n0_; have HB := n1_
 clear n0_ n1_
 obtain ⟨vb, hc6, hRb⟩ := HI.out.c6
 obtain ⟨Ao, co, hvb⟩ := Kd.S_slice hRb
 subst hvb
 have HC6 := Aside0.mk hc6
 have HRB := Aside0.mk hRb
 clear hc6 hRb
 refine start_ (n := 6) (S := fun w' => w'.cell? ⟨b6, 0, none⟩ = some (.slice Ao s.length co)) (ds := [5]) #[false, false, false, false, false, false] (by kernel_rfl) rfl rfl ((blk_cell HC6.out 0).trans rfl) (fun hHeld => ?_); refine with_tabW settled2.tab1 settled2.bits1 (fun HT_ HW_ => ?_)
 generalize World.drew _ = wd at HI HB HC6 HRB hHeld ⊢
 refine pure_ (i := 1) (N := some 9) (v := ?_) (a' := ?_) #[false, true, false, false, false, false] rfl rfl (any_of HT_.out (by kernel_rfl)) (fun _ _ _ h => h) (Or.inl ⟨by rfl, ?_⟩) ?_ ?_
 rotate_left
 ·intro w'
  go_simp
  first | with_reducible rfl | rfl
 rotate_left
 ·simp only [Act.put, List.setIfInBounds_toArray, List.set_cons_zero, List.set_cons_succ, i64_w, i32_w]
  rfl
 refine take_ (i := 0) (N := some 8) (v := ?_) (a' := ?_) #[true, true, false, false, false, false] rfl rfl (take_ofW HT_.out HW_.out (by kernel_rfl)) (fun _ _ _ h => h) (Or.inl ⟨by rfl, ?_⟩) hHeld ?_ ?_
 rotate_left
 ·rintro w' s0
  go_simp
  first | with_reducible rfl | rfl
 rotate_left
 ·simp only [Act.put, List.setIfInBounds_toArray, List.set_cons_zero, List.set_cons_succ, i64_w, i32_w]
  rfl
 refine one_ (i := 2) (N := some 10) #[true, true, true, false, false, false] rfl rfl (one_of HT_.out (by kernel_rfl)) (by decide) (fun K hK => ?_)
 refine goes_ Try.func62 (by kernel_rfl) rfl #[.slice A l.length c] (by rfl) rfl rfl (by (try simp only [List.map_toArray, List.map_cons, List.map_nil]); first | done | rfl) ?_
 refine (slices_Clone.calls A c l c2 _ (Kd.C_below HR.out HB.out) HC.out HCL.out).mono ?_
 rintro e w4 ⟨v2, rfl, ho, hb⟩
 obtain ⟨A2, d2, hv2⟩ := Kd.R_slice ho
 subst hv2
 refine ⟨_, rfl, ?_⟩
 have HLT := Aside0.mk (show ∀ k_, (Value.slice Ao s.length co).ownBlock = some k_ → k_ < wd.heap.size by obtain ⟨inner, ho_⟩ := Kd.S_own HRB.out; exact own_lt ho_)
 have HNW := Aside0.mk (show N0 ≤ wd.heap.size from Nat.le_trans HN.out HB.out.size)
 have HR2 := Aside0.mk (Kd.R_lower (Kd.R_mono (Kd.R_bound ho) (fun _ hk => hk.2.1)) HNW.out)
 have n0_ := Aside0.mk (HI.out.below hb)
 have n1_ := Aside0.mk (below_step HB.out hb)
 have n2_ := Aside0.mk (blk_below HC6.out hb)
 have n3_ := Aside0.mk (Kd.S_mono (Kd.S_old HRB.out hb) (fun k_ hk => (⟨hk.1, Nat.not_le.2 hk.2⟩ : N0 ≤ k_ ∧ ¬ wd.heap.size ≤ k_)))
 have HSZ := Aside0.mk hb.size
 clear HI HB HC6 HRB hb ho
 have HI := n0_; have HB := n1_; have HC6 := n2_; have HRB := n3_
 clear n0_ n1_ n2_ n3_
 refine hK.out _ _ ((blk_cell HC6.out 0).trans rfl) (fun hHeld => ?_)
 clear hK K
 refine norm_ (a' := ?_) ?_ ?_
 rotate_left
 ·show Act.put _ (some 10) _ = _
  simp only [Act.put, List.setIfInBounds_toArray, List.set_cons_zero, List.set_cons_succ, i64_w, i32_w]
  rfl
 refine one_ (i := 3) (N := some 11) #[true, true, true, true, false, false] rfl rfl (one_of HT_.out (by kernel_rfl)) (by decide) (fun K hK => ?_)
 refine value_ (w1 := ?_) (v := ?_) (by rfl) rfl ?_ ?_
 rotate_left 2
 ·go_simp
  constructor
  ·rfl
  ·rfl
 refine hK.out _ _ ((blk_cell (blk_alloc HC6.out _) 0).trans rfl) (fun hHeld => ?_)
 clear hK K
 refine norm_ (a' := ?_) ?_ ?_
 rotate_left
 ·show Act.put _ (some 11) _ = _
  simp only [Act.put, List.setIfInBounds_toArray, List.set_cons_zero, List.set_cons_succ, i64_w, i32_w]
  rfl
 refine one_ (i := 4) (N := some 12) #[true, true, true, true, true, false] rfl rfl (one_of HT_.out (by kernel_rfl)) (by decide) (fun K hK => ?_)
 refine Kd.S_append_step (Kd.slice 3 (Kd.int .i64)) (w0 := W) N0 (by rfl) (.tmp 8) (.tmp 11) 39 24 (.slice none 0 0) 24 rfl Try.underlying39 info24 rfl (by decide) (by omega) (.slice Ao s.length co) s c2 [.slice A2 c2.length d2] (fun k_ => N0 ≤ k_) (fun k_ => wd.heap.size ≤ k_) rfl rfl ?aP ?aD ?aF ?aO ?aB ?aS ?aL ?_
 (case aP => exact ⟨_, rfl, HR2.out⟩)
 (case aD => exact (fun k_ hk => ⟨Nat.le_trans HNW.out hk, fun e => absurd (HLT.out k_ e.symm) (by omega)⟩))
 (case aF => exact (fun k_ hk => Nat.le_trans (Nat.le_trans HNW.out HSZ.out) hk))
 (case aO => exact HRB.out)
 (case aB => exact ⟨HB.out.os, HB.out.tape, HB.out.output, HB.out.size, fun k_ hk => HB.out.block k_ (Nat.lt_of_lt_of_le hk HN.out)⟩)
 (case aS => exact Nat.le_trans HNW.out HSZ.out)
 (case aL => have := HSL.out; omega)
 intro v9 w9 ho hb hg hat
 have hm := HI0.out.put HN.out hb ho
 rw [HS.out] at hm
 obtain ⟨⟨vx, hvx⟩, hm1, hm2⟩ := hm
 obtain ⟨Ax, cx, eo⟩ := Kd.S_slice ho
 subst eo
 rw [show (s ++ [c2]).length = s.length + 1 by simp] at hm1 hm2
 have HM0 := Aside0.mk hvx
 have HM1 := Aside0.mk hm1
 have HM2 := Aside0.mk hm2
 have HC9 := Aside0.mk (blk_grown HC6.out hg (Kd.S_ne HRB.out HC6.out (by decide)))
 clear HI HB HC6 HRB ho hb hg hat hvx hm1 hm2
 refine hK.out _ _ ((blk_cell HC9.out 0).trans rfl) (fun hHeld => ?_)
 clear hK K
 refine norm_ (a' := ?_) ?_ ?_
 rotate_left
 ·show Act.put _ (some 12) _ = _
  simp only [Act.put, List.setIfInBounds_toArray, List.set_cons_zero, List.set_cons_succ, i64_w, i32_w]
  rfl
 refine last_ (i := 5) (N := none) #[true, true, true, true, true, true] rfl rfl (one_of HT_.out (by kernel_rfl)) (by decide) (fun K hK => ?_)
 have hs := (blk_cell HC9.out 0).trans rfl
 have hfs := blk_frozen HC9.out 0
 refine skip_ (w1 := ?_) (by rfl) rfl ?_ ?_
 rotate_left
 ·go_simp
  rfl
 refine hK.out _ _ ?_
 clear hK K
 refine done_ (done_of HT_.out (by kernel_rfl)) ?_
 try go_wp2
 go_end0
 try go_wp2
 first | exact ⟨HM1.out, HM2.out⟩ | exact ⟨by first | rfl | (simp; done), HM1.out, HM2.out⟩
set_option maxHeartbeats 8000000 in
set_option maxRecDepth 100000 in
theorem jam_SettledS.calls (k : Nat) (A0_0 : Option Addr) (c0_0 : Nat) (l0_0 : List (List Int)) (A0_1 : Option Addr) (c0_1 : Nat) (l0_1 : List (List Int)) (r1 : List (List Int)) (r2 : Int) (w : World) (hr0_0 : Kd.C (Kd.slice 3 (Kd.int .i64)) w A0_0 l0_0.length l0_0) (hc0_0 : l0_0.length ≤ c0_0) (hr0_1 : Kd.C (Kd.slice 3 (Kd.int .i64)) w A0_1 l0_1.length l0_1) (hc0_1 : l0_1.length ≤ c0_1) (h : jam_SettledS.f k l0_0 l0_1 = some (r1, r2)) :
  Calls Try.prog 37 #[.agg #[.slice A0_0 l0_0.length c0_0, .slice A0_1 l0_1.length c0_1]] w fun e w' => ∃ v0_ : Value, e = .returned (.tuple #[v0_, .int .i64 r2]) ∧ Kd.S (Kd.slice 3 (Kd.int .i64)) 24 w' w.heap.size (fun _ => True) v0_ r1 ∧ Below w.heap.size w w' := by
 have hu41 := Try.underlying41
 have hmf : ∀ (fn : Fn) (first cap : Array Value) (w : World), (Instr.makeFunc fn first cap).run Try.prog w = .ok (.func fn first cap) w := fun _ _ _ _ => rfl
 have HR0 := Aside0.mk hr0_0
 have HC0 := Aside0.mk hc0_0
 have HR1 := Aside0.mk hr0_1
 have HC1 := Aside0.mk hc0_1
 clear hr0_0 hc0_0 hr0_1 hc0_1
 have HB := Aside0.mk (Below.refl w.heap.size w)
 unfold jam_SettledS.f jam_Settled.f at h
 by_cases hp : readOk l0_0 l0_1 = true
 case neg =>
  rw [if_neg hp] at h
  have HPO := Aside0.mk (Bool.eq_false_iff.mpr hp)
  clear hp
  simp only [Option.some.injEq, Prod.mk.injEq] at h
  obtain ⟨rfl, rfl⟩ := h
  go_enter Try.func37, Try.ntmps37
  go_wp2_with (first | ((with_reducible refine gate_dst (N := 1) rfl ?_); refine box_event ?hg (N := 1) ?hd (cs := #[.slice A0_0 l0_0.length c0_0, .slice A0_1 l0_1.length c0_1]) (t := 41) ?hr ?_; (case hd => rfl); (case hg => rfl); (case hr => first | (go_simp; done) | (go_simp; rfl)); intro gb hg w1 hbox hb; have BB := Aside0.mk hbox; clear HB; have HB := Aside0.mk hb; clear hg hbox hb; have hb_0 : w1.cell? ⟨gb, 0, none⟩ = some (.slice A0_0 l0_0.length c0_0) := (blk_cell BB.out 0).trans rfl; have hb_1 : w1.cell? ⟨gb, 1, none⟩ = some (.slice A0_1 l0_1.length c0_1) := (blk_cell BB.out 1).trans rfl) | (go_at_call 58; (refine (read_err A0_0 c0_0 l0_0 A0_1 c0_1 l0_1 _ (Kd.C_below HR0.out HB.out) HC0.out (Kd.C_below HR1.out HB.out) HC1.out HPO.out).mono ?_); rintro e w2 ⟨rfl, hb⟩; have n0_ := Aside0.mk (below_step HB.out hb); clear HB BB hb hb_0 hb_1; have HB := n0_; clear n0_))
  go_ret2
  exact ⟨_, by first | rfl | (simp; done), Kd.S_nil _ _ _ _ _, by repeat (first | (with_reducible first | exact HB.out | apply below_alloc | apply pw_below_drewN | apply below_drew1) | exact HB.out)⟩
 rw [if_pos hp] at h
 have HPO := Aside0.mk hp
 clear hp
 obtain ⟨⟨ch1, x1⟩, hx, h⟩ := Option.bind_eq_some_iff.1 h
 have HX := Aside0.mk hx
 clear hx
 simp only [Option.some.injEq, Prod.mk.injEq] at h
 obtain ⟨rfl, rfl⟩ := h
 go_enter Try.func37, Try.ntmps37
 go_upto_region 4 with (first | ((with_reducible refine gate_dst (N := 1) rfl ?_); refine box_event ?hg (N := 1) ?hd (cs := #[.slice A0_0 l0_0.length c0_0, .slice A0_1 l0_1.length c0_1]) (t := 41) ?hr ?_; (case hd => rfl); (case hg => rfl); (case hr => first | (go_simp; done) | (go_simp; rfl)); intro gb hg w1 hbox hb; have BB := Aside0.mk hbox; clear HB; have HB := Aside0.mk hb; clear hg hbox hb; have hb_0 : w1.cell? ⟨gb, 0, none⟩ = some (.slice A0_0 l0_0.length c0_0) := (blk_cell BB.out 0).trans rfl; have hb_1 : w1.cell? ⟨gb, 1, none⟩ = some (.slice A0_1 l0_1.length c0_1) := (blk_cell BB.out 1).trans rfl) | (go_at_call 58; (refine (read_ok A0_0 c0_0 l0_0 A0_1 c0_1 l0_1 _ (Kd.C_below HR0.out HB.out) HC0.out (Kd.C_below HR1.out HB.out) HC1.out HPO.out).mono ?_); rintro e w2 ⟨g, rfl, _, hG, hb⟩; have GM := Aside0.mk hG; have n0_ := Aside0.mk (below_step HB.out hb); clear HB BB hb hG hb_0 hb_1; have HB := n0_; clear n0_))
 obtain ⟨b5, hb5⟩ : ∃ b5, w2.heap.size = b5 := ⟨_, rfl⟩
 rw [hb5]
 obtain ⟨wa, hwa⟩ : ∃ wa, w2.alloc (.cells #[.pointer (some ⟨g, 0, none⟩)] 82) = wa := ⟨_, rfl⟩
 rw [hwa]
 have n0_ : Below w2.heap.size w2 wa := hwa ▸ below_alloc (Below.refl _ _) _
 have B5 := Aside0.mk (hb5 ▸ hwa ▸ heap_alloc_new w2 _ : wa.heap[b5]? = some (.cells #[.pointer (some ⟨g, 0, none⟩)] 82 (0, 0)))
 have O5 := Aside0.mk (show w2.heap.size ≤ b5 by rw [hb5]; exact Nat.le_refl _)
 have HBA := Aside0.mk n0_
 clear hwa hb5 n0_
 go_upto_region 5 with (fail)
 obtain ⟨b7, hb7⟩ : ∃ b7, wa.heap.size = b7 := ⟨_, rfl⟩
 rw [hb7]
 obtain ⟨wz, hwb⟩ : ∃ wz, wa.alloc (.cells #[.slice none 0 0] 39) = wz := ⟨_, rfl⟩
 rw [hwb]
 have n0_ : Below wa.heap.size wa wz := hwb ▸ below_alloc (Below.refl _ _) _
 have B7 := Aside0.mk (hb7 ▸ hwb ▸ heap_alloc_new wa _ : wz.heap[b7]? = some (.cells #[.slice none 0 0] 39 (0, 0)))
 have O7 := Aside0.mk (show w2.heap.size ≤ b7 by rw [← hb7]; exact HBA.out.size)
 have n1_ := Aside0.mk (below_step HBA.out n0_)
 have n2_ := Aside0.mk (blk_below B5.out n0_)
 clear HBA B5 hwb hb7 n0_
 have HBA := n1_; have B5 := n2_
 clear n1_ n2_
 have HRO := Aside0.mk (readOk_routes HPO.out)
 have HST := Aside0.mk (show ∀ W, Below wz.heap.size wz W → InvT w2 wz.heap.size b5 b7 g l0_0 l0_1 W.heap.size W [] from fun W hW => ⟨below_step HBA.out hW, GM.out, blk_below B5.out hW, ⟨_, blk_below B7.out hW, Kd.S_nil _ _ _ _ _⟩, ⟨O5.out, blk_lt B5.out⟩, ⟨O7.out, blk_lt B7.out⟩, hW.size⟩)
 have h5 : wz.cell? ⟨b5, 0, none⟩ = some (.pointer (some ⟨g, 0, none⟩)) := (blk_cell B5.out 0).trans rfl
 go_upto_region 6 with (first | (go_at_call 59; go_loud ((refine (all_calls l0_0 l0_1 g 70 #[.pointer (some ⟨b5, 0, none⟩), .pointer (some ⟨b7, 0, none⟩)] _ Try.func70 (by kernel_rfl) rfl (visS k l0_0 l0_1) (InvT w2 wz.heap.size b5 b7 g l0_0 l0_1) wz [] x1 ch1 HST.out (fun N0 W s h => h.gm) (fun N0 W W' s _ h hs => h.side hs) (fun N0 W s s' A c l hn hN hI hC hc hl hv => settled2_calls k w2 wz.heap.size b5 b7 g l0_0 l0_1 N0 W s s' A c l hN hI hC hc hv) HRO.out.1 HRO.out.2.1 HRO.out.2.2 HX.out).mono ?_); rintro e w5 ⟨rfl, N0, hn, hI⟩; have HN := Aside0.mk hn; have HI := Aside0.mk hI; clear hn hI h5)))
 obtain ⟨vb, hc7, hRb⟩ := HI.out.c6
 have HRB := Aside0.mk hRb
 have h7 : w5.cell? ⟨b7, 0, none⟩ = some vb := (blk_cell hc7 0).trans rfl
 obtain ⟨Ab, cb, hvb⟩ := Kd.S_slice hRb
 subst hvb
 clear hc7 hRb
 go_wp2
 go_ret2
 exact ⟨_, by first | rfl | (simp; done), by (with_reducible repeat (first | apply Kd.S_alloc | apply Kd.S_drewN | apply Kd.S_drew)); exact Kd.S_mono (Kd.S_lower HRB.out (Nat.le_trans (Nat.le_trans (below_size HB.out) HBA.out.size) HN.out)) (fun _ _ => trivial), by repeat (first | (with_reducible first | exact (below_step HB.out HI.out.hB) | apply below_alloc | apply pw_below_drewN | apply below_drew1) | exact (below_step HB.out HI.out.hB))⟩
end Go.Proofs.Ytjgbdicbdlollaa.B
namespace Go.Proofs.Ytjgbdicbdlollaa.B
open Go.RowKit Go.Proofs.YtjgbdicbdlollaaW.PrintWords Go.Proofs.YtjgbdicbdlollaaW.PrintLast Go.Proofs.YtjgbdicbdlollaaW.PrintMore
attribute [local go_sem] max2_int min2_int max_two min_two max_three min_three max_four min_four   -- for this text's walks alone
set_option linter.unusedVariables false
set_option linter.unusedSimpArgs false
/-- All rows are the first one. -/
def sameR (R : List (List Int)) : List (List Int) := List.replicate R.length (rd_L12 R 0)
/-- A row that came in. -/
abbrev FX (w : World) : Kd (List Int) := Kd.fixed (Kd.slice 3 (Kd.int .i64)) w
theorem fx_S {e : Nat} {w0 W : World} {base : Nat} {ok : Nat → Prop} {v : Value} {xs : List (List Int)} (h : (FX w0).R e W base ok v xs) : Kd.S (FX w0) e W base ok v xs := by
  obtain ⟨h0, inner, ho, hr⟩ := h
  refine ⟨fun _ => 0, h0, inner, by rw [List.length_zipIdx]; exact ho, by rw [List.length_zipIdx]; exact hr.1, fun j p hj => ?_⟩
  have hx : xs[j]? = some p.1 := by
    rw [List.getElem?_zipIdx] at hj
    cases hx : xs[j]? with
    | none => rw [hx] at hj; simp at hj
    | some y => rw [hx] at hj; simp only [Option.map_some, Option.some.injEq] at hj; rw [← hj]
  exact hr.2 j p.1 hx
theorem fx_C {w0 W : World} {A : Option Addr} {n : Nat} {xs : List (List Int)} (h : (FX w0).C W A n xs) (hb : Below w0.heap.size w0 W) : Kd.C (Kd.slice 3 (Kd.int .i64)) W A n xs := by
  refine ⟨h.1, h.2.1, fun hp => ?_⟩
  obtain ⟨ad, e, hc⟩ := h.2.2 hp
  refine ⟨ad, e, fun j p hj => ?_⟩
  obtain ⟨c, hl, hk, hcc⟩ := hc j p hj
  exact ⟨c, hl, (Kd.slice 3 (Kd.int .i64)).K_below hb hk, hcc⟩
theorem sameR_len (R : List (List Int)) : (sameR R).length = R.length := by simp [sameR]
theorem wrap_i1 {i : Nat} (h : i < 1000000) : wrap64 ((i : Int) + 1) = ((i + 1 : Nat) : Int) := by unfold wrap64; omega
mutual
def trishawlaw02_JamSame.j0 : Nat → Int → Bool → List (List Int) → List (List Int) → Option (Bool)
  | 0, _, _, _, _ => none
  | k + 1, x1, x29, x102000, x102001 => if x29 = true then ((trishawlaw02_alive.f k).bind fun t103 => (some t103)) else (if x102000.length < 1000000 then ((trishawref02_IsGame.f k (sameR x102000) x102001).bind fun t109 => (if t109 = true then ((jam_SettledS.f k (sameR x102000) x102001).bind fun bt111 => (if bt111.2 = 0 then (trishawlaw02_JamSame.l0 k x1 bt111.1 (x102000.length : Int) 0 (sameR x102000) x102001) else (some false))) else ((trishawlaw02_alive.f k).bind fun t110 => (some t110)))) else none)
def trishawlaw02_JamSame.l0 : Nat → Int → List (List Int) → Int → Int → List (List Int) → List (List Int) → Option (Bool)
  | 0, _, _, _, _, _, _ => none
  | k + 1, x1, x7, x9, x10, x105000, x105001 => if x10 < (x7.length : Int) then (if 0 ≤ x10 then (if ((rd_L12 x7 x10).length : Int) = x9 then (if 0 ≤ x9 then (if (x9 : Int).toNat ≤ 35184372088832 then (trishawlaw02_JamSame.l1 k x1 x7 x9 x10 (List.replicate (x9 : Int).toNat 0) 0 x105000 x105001) else (none)) else (none)) else (some false)) else (none)) else ((trishawlaw02_alive.f k).bind fun t115 => (some t115))
def trishawlaw02_JamSame.l1 : Nat → Int → List (List Int) → Int → Int → List Int → Int → List (List Int) → List (List Int) → Option (Bool)
  | 0, _, _, _, _, _, _, _, _ => none
  | k + 1, x1, x7, x9, x10, x11, x12, x105000, x105001 => if x12 < x9 then (if x9 = 0 then (none) else (if 0 ≤ x10 then (if x10 < (x7.length : Int) then (if 0 ≤ x12 then (if x12 < ((rd_L12 x7 x10).length : Int) then (if 0 ≤ (Int.tmod (wrap64 (x12 + (wrap64 (x1)))) x9) then (if (Int.tmod (wrap64 (x12 + (wrap64 (x1)))) x9) < (x11.length : Int) then (trishawlaw02_JamSame.l1 k x1 x7 x9 x10 (x11.set ((Int.tmod (wrap64 (x12 + (wrap64 (x1)))) x9) : Int).toNat (rd (rd_L12 x7 x10) x12)) (wrap64 (x12 + 1)) x105000 x105001) else (none)) else (none)) else (none)) else (none)) else (none)) else (none))) else (trishawlaw02_JamSame.l2 k x1 x7 x9 x10 x11 false 0 x105000 x105001)
def trishawlaw02_JamSame.l2 : Nat → Int → List (List Int) → Int → Int → List Int → Bool → Int → List (List Int) → List (List Int) → Option (Bool)
  | 0, _, _, _, _, _, _, _, _, _ => none
  | k + 1, x1, x7, x9, x10, x11, x13, x14, x105000, x105001 => if x14 < (x7.length : Int) then (if x13 = true then (trishawlaw02_JamSame.l2 k x1 x7 x9 x10 x11 true (wrap64 (x14 + 1)) x105000 x105001) else (if 0 ≤ x14 then ((trishawlaw02_same.f k (rd_L12 x7 x14) x11).bind fun t124 => (trishawlaw02_JamSame.l2 k x1 x7 x9 x10 x11 t124 (wrap64 (x14 + 1)) x105000 x105001)) else (none))) else (if 0 ≤ x10 then (if x10 < (x7.length : Int) then ((jam_Costs.f k x105000 x105001 (rd_L12 x7 x10)).bind fun bt126 => ((jam_Costs.f k x105000 x105001 x11).bind fun bt131 => (if x13 = true then (if bt126.2.2 = 0 then (if bt131.2.2 = 0 then (if bt126.2.1 = bt131.2.1 then (trishawlaw02_JamSame.l0 k x1 x7 x9 (wrap64 (x10 + 1)) x105000 x105001) else (some false)) else (some false)) else (some false)) else (some false)))) else (none)) else (none))
end
def trishawlaw02_JamSame.f (k : Nat) (l0_0 : List (List Int)) (l0_1 : List (List Int)) (a1 : Int) : Option (Bool) := (trishawlaw02_few.f k l0_0 l0_1 ([] : List Int)).bind fun t102 => (if t102 = true then (trishawlaw02_JamSame.j0 k a1 ((l0_0.length : Int) == 0) l0_0 l0_1) else (trishawlaw02_JamSame.j0 k a1 true l0_0 l0_1))
def trishawlaw02_JamSame.T7 : Bool × List (List Nat × List Nat) := (true, [([], []), ([0], [0]), ([], []), ([2], [2]), ([3], [3]), ([4], [4]), ([5], [5]), ([1, 6], [1, 6]), ([0, 1, 2, 3, 4, 5, 6, 7], []), ([8, 7, 7, 0, 1, 2, 3, 4, 5, 6, 7], [7, 8])])
def trishawlaw02_JamSame.B7 : List Nat := [0, 1, 0, 4, 12, 28, 60, 127, 0, 511]
theorem trishawlaw02_JamSame.tab7 : rtab .any (opsOf Try.f11 7) = trishawlaw02_JamSame.T7 := by kernel_rfl
theorem trishawlaw02_JamSame.bits7 : waitsOk trishawlaw02_JamSame.T7.2 trishawlaw02_JamSame.B7 = true := by kernel_rfl
def trishawlaw02_JamSame.T23 : Bool × List (List Nat × List Nat) := (true, [([], []), ([], []), ([], []), ([2], [2]), ([1, 3], [1, 3]), ([], []), ([4, 5], [4, 5]), ([], []), ([], []), ([7, 8], [7, 8]), ([9], [9]), ([], []), ([10, 11], [10, 11]), ([12], [12]), ([0, 6, 0, 1, 2, 3, 4, 5, 6, 7, 8, 9, 10, 11, 12, 13], [0, 6]), ([14, 13, 0, 1, 2, 3, 4, 5, 6, 7, 8, 9, 10, 11, 12, 13], [13, 14])])
def trishawlaw02_JamSame.B23 : List Nat := [0, 0, 0, 4, 14, 0, 62, 0, 0, 384, 896, 0, 3968, 8064, 16383, 32767]
theorem trishawlaw02_JamSame.tab23 : rtab .any (opsOf Try.f11 23) = trishawlaw02_JamSame.T23 := by kernel_rfl
theorem trishawlaw02_JamSame.bits23 : waitsOk trishawlaw02_JamSame.T23.2 trishawlaw02_JamSame.B23 = true := by kernel_rfl
def trishawlaw02_JamSame.T29 : Bool × List (List Nat × List Nat) := (true, [([], []), ([], []), ([], []), ([1, 2], [1, 2]), ([3], [3]), ([0, 4], [0, 4]), ([5], [5]), ([6], [6]), ([6], [6]), ([6], [6]), ([7, 5, 0, 1, 2, 3, 4, 5, 6, 7], [7]), ([8, 10, 0, 1, 2, 3, 4, 5, 6, 7, 8, 10], [8]), ([9, 11, 0, 1, 2, 3, 4, 5, 6, 7, 8, 9, 10, 11], [9])])
def trishawlaw02_JamSame.B29 : List Nat := [0, 0, 0, 6, 14, 31, 63, 127, 127, 127, 255, 1535, 4095]
theorem trishawlaw02_JamSame.tab29 : rtab .any (opsOf Try.f11 29) = trishawlaw02_JamSame.T29 := by kernel_rfl
theorem trishawlaw02_JamSame.bits29 : waitsOk trishawlaw02_JamSame.T29.2 trishawlaw02_JamSame.B29 = true := by kernel_rfl
set_option maxHeartbeats 8000000 in
set_option maxRecDepth 100000 in
theorem trishawlaw02_JamSame.calls (k : Nat) (A0_0 : Option Addr) (c0_0 : Nat) (l0_0 : List (List Int)) (A0_1 : Option Addr) (c0_1 : Nat) (l0_1 : List (List Int)) (a1 : Int) (r : Bool) (w : World) (hr0_0 : Kd.C (Kd.slice 3 (Kd.int .i64)) w A0_0 l0_0.length l0_0) (hc0_0 : l0_0.length ≤ c0_0) (hr0_1 : Kd.C (Kd.slice 3 (Kd.int .i64)) w A0_1 l0_1.length l0_1) (hc0_1 : l0_1.length ≤ c0_1) (h : trishawlaw02_JamSame.f k l0_0 l0_1 a1 = some r) (hrt : r = true) :
  Calls Try.prog 11 #[.agg #[.slice A0_0 l0_0.length c0_0, .slice A0_1 l0_1.length c0_1], .int .u8 a1] w fun e w' => e = .returned (.bool r) ∧ Below w.heap.size w w' := by
 have hu41 := Try.underlying41
 have HR0_0 := Aside0.mk hr0_0
 have HC0_0 := Aside0.mk hc0_0
 clear hr0_0 hc0_0
 have HR0_1 := Aside0.mk hr0_1
 have HC0_1 := Aside0.mk hc0_1
 clear hr0_1 hc0_1
 have HB := Aside0.mk (Below.refl w.heap.size w)
 have H : ((trishawlaw02_few.f k l0_0 l0_1 ([] : List Int)).bind fun t102 => (if t102 = true then (trishawlaw02_JamSame.j0 k a1 ((l0_0.length : Int) == 0) l0_0 l0_1) else (trishawlaw02_JamSame.j0 k a1 true l0_0 l0_1))) = some r := h
 clear h
 have HRT := Aside0.mk hrt
 clear hrt
 have HC3 := Aside0.mk H
 clear H
 go_enter Try.func11, Try.ntmps11
 go_upto_region 1 with (first | ((with_reducible refine gate_dst (N := 2) rfl ?_); (try (refine gate_guard (by rfl) ?_; dsimp only)); refine box_event ?hg (N := 2) ?hd (cs := #[.slice A0_0 l0_0.length c0_0, .slice A0_1 l0_1.length c0_1]) (t := 41) ?hr ?_; (case hd => rfl); (case hg => rfl); (case hr => first | (go_simp; done) | (go_simp; rfl)); intro gb101 hg w4 hbox hb; have n0_ := Aside0.mk (below_step (by repeat (first | (with_reducible first | exact HB.out | apply below_alloc | apply pw_below_drewN | apply below_drew1) | exact HB.out)) hb); have n1_ := Aside0.mk (hbox); have n2_ := Aside0.mk ((by rw [hg]; exact (below_size (by repeat (first | (with_reducible first | exact HB.out | apply below_alloc | apply pw_below_drewN | apply below_drew1) | exact HB.out))) : w.heap.size ≤ gb101)); have n3_ := Aside0.mk ((by rw [hg]; exact (below_size (by repeat (first | (with_reducible first | exact HB.out | apply below_alloc | apply pw_below_drewN | apply below_drew1) | exact HB.out))) : w.heap.size ≤ gb101)); clear HB; have HB := n0_; have BK101 := n1_; have GW101 := n2_; have GE101 := n3_; clear n0_ n1_ n2_ n3_; clear hb hbox hg))
 (try simp only [Act.put, List.setIfInBounds_toArray, List.set_cons_zero, List.set_cons_succ])
 go_cut [29] (fun v29 wc => ∃ (kq : Nat) (x29_2 : Bool), v29 = .bool x29_2 ∧ Aside0 (trishawlaw02_JamSame.j0 kq a1 x29_2 l0_0 l0_1 = some r) ∧ Aside0 (kq ≤ k) ∧ Aside0 (wc.heap[gb101]? = some (.cells #[(.slice A0_0 l0_0.length c0_0), (.slice A0_1 l0_1.length c0_1)] 41 (0, 0))) ∧ Aside0 (Below w.heap.size w wc))
 case first =>
  have H := HC3.out
  clear HC3
  replace H := Option.bind_eq_some_iff.mp H
  obtain ⟨t102, A50, H⟩ := H
  replace H : (if t102 = true then (trishawlaw02_JamSame.j0 k a1 ((l0_0.length : Int) == 0) l0_0 l0_1) else (trishawlaw02_JamSame.j0 k a1 true l0_0 l0_1)) = some r := H
  have A5 := Aside0.mk A50
  clear A50
  by_cases c6 : t102 = true
  ·subst c6
   have H1 : (trishawlaw02_JamSame.j0 k a1 ((l0_0.length : Int) == 0) l0_0 l0_1) = some r := by rw [if_pos rfl] at H; exact H
   clear H
   have H := H1
   clear H1
   have H' := Aside0.mk H
   clear H
   have hcz7_0 : w4.cell? ⟨gb101, 0, none⟩ = some (.slice A0_0 l0_0.length c0_0) := (blk_cell BK101.out 0).trans rfl
   have hcz7_1 : w4.cell? ⟨gb101, 1, none⟩ = some (.slice A0_1 l0_1.length c0_1) := (blk_cell BK101.out 1).trans rfl
   have hfz7_0 := blk_frozen BK101.out 0
   have hfz7_1 := blk_frozen BK101.out 1
   go_wp2_with (first | ((with_reducible refine gate_callee (f := 24) rfl ?_); refine goesL_ (some 22) rfl rfl Try.func24 (by kernel_rfl) rfl #[.agg #[.slice A0_0 l0_0.length c0_0, .slice A0_1 l0_1.length c0_1], .slice none 0 0] rfl (by (try simp only [List.map_toArray, List.map_cons, List.map_nil]); first | done | rfl | (simp only [List.length_drop, List.length_take]; rfl)) ?_; (refine (trishawlaw02_few.calls k _ _ l0_0 _ _ l0_1 _ _ ([] : List Int) true _ ?side1 ?side2 ?side3 ?side4 ?side5 ?side6 A5.out).mono ?_); (case side1 => repeat (first | exact (Kd.C_below HR0_0.out HB.out) | (with_reducible refine Kd.C_alloc ?_ _) | (with_reducible refine Kd.C_drewN ?_ _) | (with_reducible refine Kd.C_drew ?_))); (case side2 => exact HC0_0.out); (case side3 => repeat (first | exact (Kd.C_below HR0_1.out HB.out) | (with_reducible refine Kd.C_alloc ?_ _) | (with_reducible refine Kd.C_drewN ?_ _) | (with_reducible refine Kd.C_drew ?_))); (case side4 => exact HC0_1.out); (case side5 => exact Kd.C_nil _ _); (case side6 => exact Nat.le_refl _); rintro e w8 ⟨rfl, hb⟩; refine ⟨_, rfl, ?_⟩; have n0_ := Aside0.mk (blk_below (g := gb101) (o := .cells #[.slice A0_0 l0_0.length c0_0, .slice A0_1 l0_1.length c0_1] 41 (0, 0)) (by (with_reducible repeat (first | refine blk_drewN ?_ _ | refine blk_drew ?_ | refine blk_alloc ?_ _)); exact BK101.out) hb); have n1_ := Aside0.mk (below_step (by repeat (first | (with_reducible first | exact HB.out | apply below_alloc | apply pw_below_drewN | apply below_drew1 | refine below_set ?_ GE101.out) | exact HB.out)) hb); clear BK101; clear HB; have BK101 := n0_; have HB := n1_; clear n0_ n1_; (try clear hb); (try clear hb2); (try clear hk); (try clear hi); have hcz9_0 : w8.cell? ⟨gb101, 0, none⟩ = some (.slice A0_0 l0_0.length c0_0) := (blk_cell BK101.out 0).trans rfl; have hcz9_1 : w8.cell? ⟨gb101, 1, none⟩ = some (.slice A0_1 l0_1.length c0_1) := (blk_cell BK101.out 1).trans rfl; have hfz9_0 := blk_frozen BK101.out 0; have hfz9_1 := blk_frozen BK101.out 1))
   go_meet
   case rel => exact ⟨_, (((l0_0.length : Int) == 0)), (by first | rfl | (simp; done) | (simp [*]; done)), H', ⟨by first | omega | exact Nat.le_refl _⟩, ⟨by (with_reducible repeat (first | refine blk_drewN ?_ _ | refine blk_drew ?_ | refine blk_alloc ?_ _)); exact BK101.out⟩, ⟨by repeat (first | (with_reducible first | exact HB.out | apply below_alloc | apply pw_below_drewN | apply below_drew1 | refine below_set ?_ GE101.out) | exact HB.out)⟩⟩
  ·replace c6 := Bool.eq_false_iff.mpr c6
   subst c6
   have H1 : (trishawlaw02_JamSame.j0 k a1 true l0_0 l0_1) = some r := by rw [if_neg (show ¬ (false = true) by decide)] at H; exact H
   clear H
   have H := H1
   clear H1
   have H' := Aside0.mk H
   clear H
   have hcz10_0 : w4.cell? ⟨gb101, 0, none⟩ = some (.slice A0_0 l0_0.length c0_0) := (blk_cell BK101.out 0).trans rfl
   have hcz10_1 : w4.cell? ⟨gb101, 1, none⟩ = some (.slice A0_1 l0_1.length c0_1) := (blk_cell BK101.out 1).trans rfl
   have hfz10_0 := blk_frozen BK101.out 0
   have hfz10_1 := blk_frozen BK101.out 1
   go_wp2_with (first | ((with_reducible refine gate_callee (f := 24) rfl ?_); refine goesL_ (some 22) rfl rfl Try.func24 (by kernel_rfl) rfl #[.agg #[.slice A0_0 l0_0.length c0_0, .slice A0_1 l0_1.length c0_1], .slice none 0 0] rfl (by (try simp only [List.map_toArray, List.map_cons, List.map_nil]); first | done | rfl | (simp only [List.length_drop, List.length_take]; rfl)) ?_; (refine (trishawlaw02_few.calls k _ _ l0_0 _ _ l0_1 _ _ ([] : List Int) false _ ?side1 ?side2 ?side3 ?side4 ?side5 ?side6 A5.out).mono ?_); (case side1 => repeat (first | exact (Kd.C_below HR0_0.out HB.out) | (with_reducible refine Kd.C_alloc ?_ _) | (with_reducible refine Kd.C_drewN ?_ _) | (with_reducible refine Kd.C_drew ?_))); (case side2 => exact HC0_0.out); (case side3 => repeat (first | exact (Kd.C_below HR0_1.out HB.out) | (with_reducible refine Kd.C_alloc ?_ _) | (with_reducible refine Kd.C_drewN ?_ _) | (with_reducible refine Kd.C_drew ?_))); (case side4 => exact HC0_1.out); (case side5 => exact Kd.C_nil _ _); (case side6 => exact Nat.le_refl _); rintro e w11 ⟨rfl, hb⟩; refine ⟨_, rfl, ?_⟩; have n0_ := Aside0.mk (blk_below (g := gb101) (o := .cells #[.slice A0_0 l0_0.length c0_0, .slice A0_1 l0_1.length c0_1] 41 (0, 0)) (by (with_reducible repeat (first | refine blk_drewN ?_ _ | refine blk_drew ?_ | refine blk_alloc ?_ _)); exact BK101.out) hb); have n1_ := Aside0.mk (below_step (by repeat (first | (with_reducible first | exact HB.out | apply below_alloc | apply pw_below_drewN | apply below_drew1 | refine below_set ?_ GE101.out) | exact HB.out)) hb); clear BK101; clear HB; have BK101 := n0_; have HB := n1_; clear n0_ n1_; (try clear hb); (try clear hb2); (try clear hk); (try clear hi)))
   go_meet
   case rel => exact ⟨_, (true), (by first | rfl | (simp; done) | (simp [*]; done)), H', ⟨by first | omega | exact Nat.le_refl _⟩, ⟨by (with_reducible repeat (first | refine blk_drewN ?_ _ | refine blk_drew ?_ | refine blk_alloc ?_ _)); exact BK101.out⟩, ⟨by repeat (first | (with_reducible first | exact HB.out | apply below_alloc | apply pw_below_drewN | apply below_drew1 | refine below_set ?_ GE101.out) | exact HB.out)⟩⟩
 case rest =>
  clear HC3
  try clear c1
  try clear c2
  try clear p2
  try clear c6
  try clear c11
  try clear hcz10_0
  try clear hcz10_1
  try clear hcz7_0
  try clear hcz7_1
  try clear hcz9_0
  try clear hcz9_1
  try clear hfz10_0
  try clear hfz10_1
  try clear hfz7_0
  try clear hfz7_1
  try clear hfz9_0
  try clear hfz9_1
  obtain ⟨kq, x29_2, rfl, HA, HJ2, BK101, HB⟩ := hcut
  cases kq with
  | zero => exact absurd HA.out (by simp [trishawlaw02_JamSame.j0])
  | succ kj2 =>
   have H := HA.out
   clear HA
   simp only [trishawlaw02_JamSame.j0] at H
   by_cases c12 : x29_2 = true
   ·subst c12
    have H1 : ((trishawlaw02_alive.f kj2).bind fun t103 => (some t103)) = some r := by rw [if_pos rfl] at H; exact H
    clear H
    have H := H1
    clear H1
    replace H := Option.bind_eq_some_iff.mp H
    obtain ⟨t103, A130, H⟩ := H
    replace H : (some t103) = some r := H
    have A13 := Aside0.mk A130
    clear A130
    obtain rfl := Option.some.inj H
    go_wp2_with (first | ((with_reducible refine gate_callee (f := 16) rfl ?_); refine goesL_ (some 30) rfl rfl Try.func16 (by kernel_rfl) rfl #[] rfl (by (try simp only [List.map_toArray, List.map_cons, List.map_nil]); first | done | rfl | (simp only [List.length_drop, List.length_take]; rfl)) ?_; (with_reducible refine (trishawlaw02_alive.calls kj2  t103 _ A13.out).mono ?_); rintro e w14 ⟨rfl, hb⟩; refine ⟨_, rfl, ?_⟩; have n0_ := Aside0.mk (blk_below (g := gb101) (o := .cells #[.slice A0_0 l0_0.length c0_0, .slice A0_1 l0_1.length c0_1] 41 (0, 0)) (by (with_reducible repeat (first | refine blk_drewN ?_ _ | refine blk_drew ?_ | refine blk_alloc ?_ _)); exact BK101.out) hb); have n1_ := Aside0.mk (below_step (by repeat (first | (with_reducible first | exact HB.out | apply below_alloc | apply pw_below_drewN | apply below_drew1 | refine below_set ?_ GE101.out) | exact HB.out)) hb); clear BK101; clear HB; have BK101 := n0_; have HB := n1_; clear n0_ n1_; (try clear hb); (try clear hb2); (try clear hk); (try clear hi)))
    go_ret
    exact ⟨by first | rfl | (simp [errW_none, errW_some] <;> rfl) | (simp [*, errW_none, errW_some] <;> rfl), by repeat (first | (with_reducible first | exact HB.out | apply below_alloc | apply pw_below_drewN | apply below_drew1 | refine below_set ?_ GE101.out) | exact HB.out)⟩
   ·replace c12 := Bool.eq_false_iff.mpr c12
    subst c12
    have H1 : (if l0_0.length < 1000000 then ((trishawref02_IsGame.f kj2 (sameR l0_0) l0_1).bind fun t109 => (if t109 = true then ((jam_SettledS.f kj2 (sameR l0_0) l0_1).bind fun bt111 => (if bt111.2 = 0 then (trishawlaw02_JamSame.l0 kj2 a1 bt111.1 (l0_0.length : Int) 0 (sameR l0_0) l0_1) else (some false))) else ((trishawlaw02_alive.f kj2).bind fun t110 => (some t110)))) else none) = some r := by rw [if_neg (show ¬ (false = true) by decide)] at H; exact H
    clear H
    by_cases cN : l0_0.length < 1000000
    case neg => rw [if_neg cN] at H1; exact absurd H1 (by simp)
    rw [if_pos cN] at H1
    have HN := Aside0.mk cN
    clear cN
    obtain ⟨t105, ht105⟩ : ∃ t, sameR l0_0 = t := ⟨_, rfl⟩
    rw [ht105] at H1
    have H105 := Aside0.mk ht105
    have HL105 := Aside0.mk (show t105.length = l0_0.length by rw [← ht105, sameR_len])
    clear ht105
    have HSV := Aside0.mk H1
    clear H1
    have hcz20_0 : wc.cell? ⟨gb101, 0, none⟩ = some (.slice A0_0 l0_0.length c0_0) := (blk_cell BK101.out 0).trans rfl
    have hcz20_1 : wc.cell? ⟨gb101, 1, none⟩ = some (.slice A0_1 l0_1.length c0_1) := (blk_cell BK101.out 1).trans rfl
    have hfz20_0 := blk_frozen BK101.out 0
    have hfz20_1 := blk_frozen BK101.out 1
    go_wp2_with (first | ((with_reducible refine gate_dst (N := 5) rfl ?_); (try (refine gate_guard (by rfl) ?_; dsimp only)); refine box_event ?hg (N := 5) ?hd (cs := #[.slice none 0 0, .slice none 0 0]) (t := 41) ?hr ?_; (case hd => rfl); (case hg => rfl); (case hr => first | (go_simp; done) | (go_simp; rfl)); intro gb104 hg w21 hbox hb; have n0_ := Aside0.mk (blk_below (g := gb101) (o := .cells #[.slice A0_0 l0_0.length c0_0, .slice A0_1 l0_1.length c0_1] 41 (0, 0)) (by (with_reducible repeat (first | refine blk_drewN ?_ _ | refine blk_drew ?_ | refine blk_alloc ?_ _)); exact BK101.out) hb); have n1_ := Aside0.mk (below_step (by repeat (first | (with_reducible first | exact HB.out | apply below_alloc | apply pw_below_drewN | apply below_drew1 | refine below_set ?_ GE101.out) | exact HB.out)) hb); have n2_ := Aside0.mk (hbox); have n3_ := Aside0.mk ((by rw [hg]; exact (below_size (by repeat (first | (with_reducible first | exact HB.out | apply below_alloc | apply pw_below_drewN | apply below_drew1 | refine below_set ?_ GE101.out) | exact HB.out))) : w.heap.size ≤ gb104)); have n4_ := Aside0.mk ((by rw [hg]; exact (below_size (by repeat (first | (with_reducible first | exact HB.out | apply below_alloc | apply pw_below_drewN | apply below_drew1 | refine below_set ?_ GE101.out) | exact HB.out))) : w.heap.size ≤ gb104)); have n5_ := Aside0.mk ((by rw [hg]; exact Nat.ne_of_lt (blk_lt (g := gb101) (o := .cells #[.slice A0_0 l0_0.length c0_0, .slice A0_1 l0_1.length c0_1] 41 (0, 0)) (by (with_reducible repeat (first | refine blk_drewN ?_ _ | refine blk_drew ?_ | refine blk_alloc ?_ _)); exact BK101.out)) : gb101 ≠ gb104)); have n6_ := Aside0.mk ((by rw [hg]; exact Nat.ne_of_gt (blk_lt (g := gb101) (o := .cells #[.slice A0_0 l0_0.length c0_0, .slice A0_1 l0_1.length c0_1] 41 (0, 0)) (by (with_reducible repeat (first | refine blk_drewN ?_ _ | refine blk_drew ?_ | refine blk_alloc ?_ _)); exact BK101.out)) : gb104 ≠ gb101)); clear BK101; clear HB; have BK101 := n0_; have HB := n1_; have BK104 := n2_; have GW104 := n3_; have GE104 := n4_; have NB101_104 := n5_; have NB104_101 := n6_; clear n0_ n1_ n2_ n3_ n4_ n5_ n6_; clear hb hbox hg; have hnb22 := NB104_101.out; have hnc22 := NB101_104.out; have hcz23_0 : w21.cell? ⟨gb104, 0, none⟩ = some (.slice none 0 0) := (blk_cell BK104.out 0).trans rfl; have hcz23_1 : w21.cell? ⟨gb104, 1, none⟩ = some (.slice none 0 0) := (blk_cell BK104.out 1).trans rfl; have hfz23_0 := blk_frozen BK104.out 0; have hfz23_1 := blk_frozen BK104.out 1; have hcz24_0 : w21.cell? ⟨gb101, 0, none⟩ = some (.slice A0_0 l0_0.length c0_0) := (blk_cell BK101.out 0).trans rfl; have hcz24_1 : w21.cell? ⟨gb101, 1, none⟩ = some (.slice A0_1 l0_1.length c0_1) := (blk_cell BK101.out 1).trans rfl; have hfz24_0 := blk_frozen BK101.out 0; have hfz24_1 := blk_frozen BK101.out 1))
    go_loopg [6] l0_0.length (fun kq v6 w' => ∃ (i : Nat) (A : Option Addr) (c : Nat), v6 = .int .i64 (i : Int) ∧ Aside0 (i + kq = l0_0.length) ∧ Aside0 ((FX w).R 24 w' w.heap.size (fun _ => True) (.slice A i c) (List.replicate i (rd_L12 l0_0 0))) ∧ Aside0 (w'.heap[gb101]? = some (.cells #[.slice A0_0 l0_0.length c0_0, .slice A0_1 l0_1.length c0_1] 41 (0, 0))) ∧ Aside0 (w'.heap[gb104]? = some (.cells #[.slice A i c, .slice A0_1 l0_1.length c0_1] 41 (0, 0))) ∧ Aside0 (Below w.heap.size w w'))
    case atStart => exact ⟨0, none, 0, rfl, ⟨by simp⟩, ⟨Kd.R_nil _ _ _ _ _⟩, ⟨by (with_reducible repeat (first | refine blk_drewN ?_ _ | refine blk_drew ?_ | refine blk_alloc ?_ _)); refine blk_far ?_ NB101_104.out _; (with_reducible repeat (first | refine blk_drewN ?_ _ | refine blk_drew ?_ | refine blk_alloc ?_ _)); refine blk_far ?_ NB101_104.out _; (with_reducible repeat (first | refine blk_drewN ?_ _ | refine blk_drew ?_ | refine blk_alloc ?_ _)); exact BK101.out⟩, ⟨by (with_reducible repeat (first | refine blk_drewN ?_ _ | refine blk_drew ?_ | refine blk_alloc ?_ _)); refine blk_put (cs := #[.slice none 0 0, .slice none 0 0]) ?_ 1 _ rfl; (with_reducible repeat (first | refine blk_drewN ?_ _ | refine blk_drew ?_ | refine blk_alloc ?_ _)); refine blk_put (cs := #[.slice none 0 0, .slice none 0 0]) ?_ 0 _ rfl; (with_reducible repeat (first | refine blk_drewN ?_ _ | refine blk_drew ?_ | refine blk_alloc ?_ _)); exact BK104.out⟩, ⟨by repeat (first | (with_reducible first | exact HB.out | apply below_alloc | apply pw_below_drewN | apply below_drew1 | refine below_set ?_ GE101.out | refine below_set ?_ GE104.out) | exact HB.out)⟩⟩
    case round =>
     clear BK101 BK104 HB
     try clear hcz20_0
     try clear hcz20_1
     try clear hfz20_0
     try clear hfz20_1
     try clear hcz23_0
     try clear hcz23_1
     try clear hfz23_0
     try clear hfz23_1
     try clear hcz24_0
     try clear hcz24_1
     try clear hfz24_0
     try clear hfz24_1
     try clear hnb22
     try clear hnc22
     obtain ⟨i, Ao26, co26, rfl, HKi, HO107, BK101, BK104, HB⟩ := hrel
     have hwgb101_0 : wr.cell? ⟨gb101, 0, none⟩ = some (.slice A0_0 l0_0.length c0_0) := (blk_cell BK101.out 0).trans rfl
     have hwgb101_1 : wr.cell? ⟨gb101, 1, none⟩ = some (.slice A0_1 l0_1.length c0_1) := (blk_cell BK101.out 1).trans rfl
     have hwfgb101_0 := blk_frozen BK101.out 0
     have hwgb104_0 : wr.cell? ⟨gb104, 0, none⟩ = some (.slice Ao26 i co26) := (blk_cell BK104.out 0).trans rfl
     have hwgb104_1 : wr.cell? ⟨gb104, 1, none⟩ = some (.slice A0_1 l0_1.length c0_1) := (blk_cell BK104.out 1).trans rfl
     have hwfgb104_0 := blk_frozen BK104.out 0
     cases gk with
     | zero =>
      have hi0 : i = t105.length := by have := HKi.out; have := HL105.out; omega
      have hr0 : List.replicate i (rd_L12 l0_0 0) = t105 := by rw [← H105.out]; unfold sameR; rw [show i = l0_0.length by have := HKi.out; omega]
      have hO := HO107.out
      rw [hr0] at hO
      have cX : decide ((i : Int) < (l0_0.length : Int)) = false := decide_eq_false (by have := HKi.out; omega)
      have cX2 : decide (i < l0_0.length) = false := decide_eq_false (by have := HKi.out; omega)
      clear hr0 HO107 HKi
      subst hi0
      have HO107 := Aside0.mk (fx_S hO)
      clear hO
      have H := HSV.out
      clear HSV
      have hw22 := NB104_101.out
      have hw23 := NB101_104.out
      replace H := Option.bind_eq_some_iff.mp H
      obtain ⟨t109, A160, H⟩ := H
      replace H : (if t109 = true then ((jam_SettledS.f kj2 t105 l0_1).bind fun bt111 => (if bt111.2 = 0 then (trishawlaw02_JamSame.l0 kj2 a1 bt111.1 (l0_0.length : Int) 0 t105 l0_1) else (some false))) else ((trishawlaw02_alive.f kj2).bind fun t110 => (some t110))) = some r := H
      have A16 := Aside0.mk A160
      clear A160
      by_cases c17 : t109 = true
      ·subst c17
       have H1 : ((jam_SettledS.f kj2 t105 l0_1).bind fun bt111 => (if bt111.2 = 0 then (trishawlaw02_JamSame.l0 kj2 a1 bt111.1 (l0_0.length : Int) 0 t105 l0_1) else (some false))) = some r := by rw [if_pos rfl] at H; exact H
       clear H
       have H := H1
       clear H1
       replace H := Option.bind_eq_some_iff.mp H
       obtain ⟨⟨t111, t114⟩, A180, H⟩ := H
       replace H : (if t114 = 0 then (trishawlaw02_JamSame.l0 kj2 a1 t111 (l0_0.length : Int) 0 t105 l0_1) else (some false)) = some r := H
       have A18 := Aside0.mk A180
       clear A180
       by_cases c19 : t114 = 0
       ·rw [if_pos c19] at H
        have c19b0 : (t114 == 0) = true := beq_iff_eq.mpr c19
        have c19b1 : (t114 != 0) = false := bne_eq_false_iff_eq.mpr c19
        clear c19
        have H' := Aside0.mk H
        clear H
        go_wp2_with (first | ((with_reducible refine gate_callee (f := 25) rfl ?_); refine goesL_ (some 51) rfl rfl Try.func25 (by kernel_rfl) rfl #[.agg #[.slice Ao26 t105.length co26, .slice A0_1 l0_1.length c0_1]] rfl (by (try simp only [List.map_toArray, List.map_cons, List.map_nil]); first | done | rfl | (simp only [List.length_drop, List.length_take]; rfl)) ?_; (with_reducible refine (trishawref02_IsGame.calls kj2 _ _ t105 _ _ l0_1 true _ ?side1 ?side2 ?side3 ?side4 A16.out).mono ?_); (case side1 => repeat (first | exact (fx_C (Kd.S_reads' HO107.out).2.2 HB.out) | (with_reducible refine Kd.C_alloc ?_ _) | (with_reducible refine Kd.C_drewN ?_ _) | (with_reducible refine Kd.C_drew ?_))); (case side2 => exact (Kd.S_reads' HO107.out).2.1); (case side3 => exact Kd.C_below HR0_1.out (by repeat (first | (with_reducible first | exact HB.out | apply below_alloc | apply pw_below_drewN | apply below_drew1 | refine below_set ?_ GE101.out | refine below_set ?_ GE104.out) | exact HB.out))); (case side4 => exact HC0_1.out); rintro e w28 ⟨rfl, hb⟩; refine ⟨_, rfl, ?_⟩; have n0_ := Aside0.mk (Kd.S_below (by (with_reducible repeat (first | apply Kd.S_alloc | apply Kd.S_drewN | apply Kd.S_drew)); exact HO107.out) hb); have n1_ := Aside0.mk (blk_below (g := gb101) (o := .cells #[.slice A0_0 l0_0.length c0_0, .slice A0_1 l0_1.length c0_1] 41 (0, 0)) (by (with_reducible repeat (first | refine blk_drewN ?_ _ | refine blk_drew ?_ | refine blk_alloc ?_ _)); exact BK101.out) hb); have n2_ := Aside0.mk (blk_below (g := gb104) (o := .cells #[.slice Ao26 t105.length co26, .slice A0_1 l0_1.length c0_1] 41 (0, 0)) (by (with_reducible repeat (first | refine blk_drewN ?_ _ | refine blk_drew ?_ | refine blk_alloc ?_ _)); exact BK104.out) hb); have n3_ := Aside0.mk (below_step (by repeat (first | (with_reducible first | exact HB.out | apply below_alloc | apply pw_below_drewN | apply below_drew1 | refine below_set ?_ GE101.out | refine below_set ?_ GE104.out) | exact HB.out)) hb); clear HO107; clear BK101; clear BK104; clear HB; have HO107 := n0_; have BK101 := n1_; have BK104 := n2_; have HB := n3_; clear n0_ n1_ n2_ n3_; (try clear hb); (try clear hb2); (try clear hk); (try clear hi); have hcz29_0 : w28.cell? ⟨gb104, 0, none⟩ = some (.slice Ao26 t105.length co26) := (blk_cell BK104.out 0).trans rfl; have hcz29_1 : w28.cell? ⟨gb104, 1, none⟩ = some (.slice A0_1 l0_1.length c0_1) := (blk_cell BK104.out 1).trans rfl; have hfz29_0 := blk_frozen BK104.out 0; have hfz29_1 := blk_frozen BK104.out 1) | ((with_reducible refine gate_callee (f := 37) rfl ?_); refine goesL_ (some 56) rfl rfl Try.func37 (by kernel_rfl) rfl #[.agg #[.slice Ao26 t105.length co26, .slice A0_1 l0_1.length c0_1]] rfl (by (try simp only [List.map_toArray, List.map_cons, List.map_nil]); first | done | rfl | (simp only [List.length_drop, List.length_take]; rfl)) ?_; (with_reducible refine (jam_SettledS.calls kj2 _ _ t105 _ _ l0_1 t111 t114 _ ?side1 ?side2 ?side3 ?side4 A18.out).mono ?_); (case side1 => repeat (first | exact (fx_C (Kd.S_reads' HO107.out).2.2 HB.out) | (with_reducible refine Kd.C_alloc ?_ _) | (with_reducible refine Kd.C_drewN ?_ _) | (with_reducible refine Kd.C_drew ?_))); (case side2 => exact (Kd.S_reads' HO107.out).2.1); (case side3 => repeat (first | exact (Kd.C_below HR0_1.out HB.out) | (with_reducible refine Kd.C_alloc ?_ _) | (with_reducible refine Kd.C_drewN ?_ _) | (with_reducible refine Kd.C_drew ?_))); (case side4 => exact HC0_1.out); rintro e w30 ⟨v112, rfl, ho0, hb⟩; refine ⟨_, rfl, ?_⟩; have n0_ := Aside0.mk (Kd.S_elder' (by (with_reducible repeat (first | apply Kd.S_alloc | apply Kd.S_drewN | apply Kd.S_drew)); exact HO107.out) (Kd.S_base ho0) hb); have n1_ := Aside0.mk (Kd.S_lower (Kd.S_new' ho0 (Kd.S_lt (by (with_reducible repeat (first | apply Kd.S_alloc | apply Kd.S_drewN | apply Kd.S_drew)); exact HO107.out))) (below_size (by repeat (first | (with_reducible first | exact HB.out | apply below_alloc | apply pw_below_drewN | apply below_drew1 | refine below_set ?_ GE101.out | refine below_set ?_ GE104.out) | exact HB.out)))); have n2_ := Aside0.mk (blk_below (g := gb101) (o := .cells #[.slice A0_0 l0_0.length c0_0, .slice A0_1 l0_1.length c0_1] 41 (0, 0)) (by (with_reducible repeat (first | refine blk_drewN ?_ _ | refine blk_drew ?_ | refine blk_alloc ?_ _)); exact BK101.out) hb); have n3_ := Aside0.mk (blk_below (g := gb104) (o := .cells #[.slice Ao26 t105.length co26, .slice A0_1 l0_1.length c0_1] 41 (0, 0)) (by (with_reducible repeat (first | refine blk_drewN ?_ _ | refine blk_drew ?_ | refine blk_alloc ?_ _)); exact BK104.out) hb); have n4_ := Aside0.mk (below_step (by repeat (first | (with_reducible first | exact HB.out | apply below_alloc | apply pw_below_drewN | apply below_drew1 | refine below_set ?_ GE101.out | refine below_set ?_ GE104.out) | exact HB.out)) hb); clear HO107; clear BK101; clear BK104; clear HB; have HO107 := n0_; have HO113 := n1_; have BK101 := n2_; have BK104 := n3_; have HB := n4_; clear n0_ n1_ n2_ n3_ n4_; (try clear hb); (try clear hb2); (try clear hk); (try clear hi); (try clear ho0); have hcz31_0 : w30.cell? ⟨gb101, 0, none⟩ = some (.slice A0_0 l0_0.length c0_0) := (blk_cell BK101.out 0).trans rfl; have hcz31_1 : w30.cell? ⟨gb101, 1, none⟩ = some (.slice A0_1 l0_1.length c0_1) := (blk_cell BK101.out 1).trans rfl; have hfz31_0 := blk_frozen BK101.out 0; have hfz31_1 := blk_frozen BK101.out 1))
        go_loopg [10] kj2 (fun kq v10 w' => ∃ (x10_2 : Int), v10 = .int .i64 x10_2 ∧ Aside0 (trishawlaw02_JamSame.l0 kq a1 t111 (l0_0.length : Int) x10_2 t105 l0_1 = some r) ∧ Aside0 (kq ≤ kj2) ∧ Aside0 (Kd.S (Kd.slice 3 (Kd.int .i64)) 24 w' w.heap.size (fun k_ => some k_ ≠ ((.slice Ao26 t105.length co26) : Value).ownBlock) v112 t111) ∧ Aside0 (Kd.S (FX w) 24 w' w.heap.size (fun k_ => some k_ ≠ (v112 : Value).ownBlock) (.slice Ao26 t105.length co26) t105) ∧ Aside0 (w'.heap[gb101]? = some (.cells #[(.slice A0_0 l0_0.length c0_0), (.slice A0_1 l0_1.length c0_1)] 41 (0, 0))) ∧ Aside0 (w'.heap[gb104]? = some (.cells #[(.slice Ao26 t105.length co26), (.slice A0_1 l0_1.length c0_1)] 41 (0, 0))) ∧ Aside0 (Below w.heap.size w w'))
        case atStart => exact ⟨(0), (by first | rfl | (simp; done) | (simp [*]; done)), H', ⟨Nat.le_refl _⟩, ⟨by (with_reducible repeat (first | apply Kd.S_alloc | apply Kd.S_drewN | apply Kd.S_drew)); exact Kd.S_mono HO113.out (fun _ hk => hk.2)⟩, ⟨by (with_reducible repeat (first | apply Kd.S_alloc | apply Kd.S_drewN | apply Kd.S_drew)); exact Kd.S_mono HO107.out (fun _ hk => hk.2)⟩, ⟨by (with_reducible repeat (first | refine blk_drewN ?_ _ | refine blk_drew ?_ | refine blk_alloc ?_ _)); exact BK101.out⟩, ⟨by (with_reducible repeat (first | refine blk_drewN ?_ _ | refine blk_drew ?_ | refine blk_alloc ?_ _)); exact BK104.out⟩, ⟨by repeat (first | (with_reducible first | exact HB.out | apply below_alloc | apply pw_below_drewN | apply below_drew1 | refine below_set ?_ GE101.out | refine below_set ?_ GE104.out) | exact HB.out)⟩⟩
        case round =>
         clear H'
         try clear c1
         try clear c2
         try clear p2
         try clear c3
         try clear c6
         try clear c11
         try clear c12
         try clear c16
         try clear c17
         try clear c19
         try clear c19b0
         try clear c19b1
         try clear c22
         try clear c24
         try clear c25
         try clear hcz10_0
         try clear hcz10_1
         try clear hcz20_0
         try clear hcz20_1
         try clear hcz23_0
         try clear hcz23_1
         try clear hcz24_0
         try clear hcz24_1
         try clear hcz27_0
         try clear hcz27_1
         try clear hcz29_0
         try clear hcz29_1
         try clear hcz31_0
         try clear hcz31_1
         try clear hcz7_0
         try clear hcz7_1
         try clear hcz9_0
         try clear hcz9_1
         try clear hfz10_0
         try clear hfz10_1
         try clear hfz20_0
         try clear hfz20_1
         try clear hfz23_0
         try clear hfz23_1
         try clear hfz24_0
         try clear hfz24_1
         try clear hfz27_0
         try clear hfz27_1
         try clear hfz29_0
         try clear hfz29_1
         try clear hfz31_0
         try clear hfz31_1
         try clear hfz7_0
         try clear hfz7_1
         try clear hfz9_0
         try clear hfz9_1
         try clear p2
         obtain ⟨x10_2, rfl, HA, HK2, HO_7, HO_105000, BK101, BK104, HB⟩ := hrel
         cases gk with
         | zero => exact absurd HA.out (by simp [trishawlaw02_JamSame.l0])
         | succ k2 =>
          have H := HA.out
          clear HA
          simp only [trishawlaw02_JamSame.l0] at H
          by_cases c32 : x10_2 < (t111.length : Int)
          ·rw [if_pos c32] at H
           have c32b0 : decide (x10_2 < (t111.length : Int)) = true := decide_eq_true c32
           clear c32
           by_cases c33 : 0 ≤ x10_2
           ·rw [if_pos c33] at H
            have c33b0 : decide (0 ≤ x10_2) = true := decide_eq_true c33
            clear c33
            by_cases c34 : ((rd_L12 t111 x10_2).length : Int) = (l0_0.length : Int)
            ·rw [if_pos c34] at H
             have c34b0 : (((rd_L12 t111 x10_2).length : Int) == (l0_0.length : Int)) = true := beq_iff_eq.mpr c34
             have c34b1 : (((rd_L12 t111 x10_2).length : Int) != (l0_0.length : Int)) = false := bne_eq_false_iff_eq.mpr c34
             have c34b2 : ((rd_L12 t111 x10_2).length == l0_0.length) = true := by first | simpa using c34 | (simp at c34 ⊢; omega)
             clear c34
             by_cases c35 : 0 ≤ (l0_0.length : Int)
             ·rw [if_pos c35] at H
              have c35b0 := eq_true c35
              have c35b1 : decide (0 ≤ (l0_0.length : Int)) = true := decide_eq_true c35
              clear c35
              by_cases c36 : ((l0_0.length : Int) : Int).toNat ≤ 35184372088832
              ·rw [if_pos c36] at H
               have c36b0 := eq_true c36
               have c36b1 : decide (((l0_0.length : Int) : Int).toNat ≤ 35184372088832) = true := decide_eq_true c36
               clear c36
               obtain ⟨y117, hy117⟩ : ∃ y_ : List Int, y_ = (List.replicate ((l0_0.length : Int) : Int).toNat 0) := ⟨_, rfl⟩
               replace H : (trishawlaw02_JamSame.l1 k2 a1 t111 (l0_0.length : Int) x10_2 y117 0 t105 l0_1) = some r := by first | (rw [hy117]; with_reducible exact H) | (have H2_ := (Option.bind_some _ _).symm.trans H; rw [hy117]; with_reducible exact H2_) | (have H2_ := (Option.bind_some _ _).symm.trans H; with_reducible exact H2_) | with_reducible exact H | (rw [hy117]; exact H) | exact H
               have Ny117 := Aside0.mk hy117
               clear hy117
               have H' := Aside0.mk H
               clear H
               obtain ⟨Ao37, co37, eo37⟩ := Kd.S_slice HO_7.out
               subst eo37
               have p116 : 0 ≤ (x10_2 : Int) := of_decide_eq_true (by first | (with_reducible assumption) | assumption)
               have q116 : x10_2 < (t111.length : Int) := of_decide_eq_true (by first | (with_reducible assumption) | assumption)
               obtain ⟨ad116, A116_0, c116_0, e116, hx116_0, hl116_0, hi116_0⟩ := at_L12 (Kd.S_reads' HO_7.out).2.2 x10_2 p116 q116
               cases e116
               obtain ⟨ce116, hce116, hMe116, hcc116⟩ := Kd.S_get HO_7.out [] x10_2 p116 (by first | exact q116 | exact of_decide_eq_true (by first | (with_reducible assumption) | assumption) | (have e_ := (Kd.S_reads' HO_7.out).1; omega))
               obtain ⟨ve116_0, rfl, ge116_0⟩ := hMe116
               have hv116_0 := hcc116 0 _ rfl
               rw [Nat.add_zero, show ((Kd.slice 3 (Kd.int .i64))).sz = 1 from rfl, Nat.mul_one] at hv116_0
               replace hv116_0 := Option.some.inj (hv116_0.symm.trans hx116_0)
               rw [hv116_0] at ge116_0
               have HL116_0 := Aside0.mk (show Kd.R (Kd.int .i64) 3 _ _ _ _ (rd_L12 t111 x10_2) from ge116_0)
               clear hv116_0 ge116_0
               clear hcc116 hce116
               have HR116_0 := Aside0.mk hi116_0
               have HC116_0 := Aside0.mk hl116_0
               clear hi116_0 hl116_0
               replace p116 := eq_true p116
               replace q116 := eq_true q116
               go_wp2_with (first | ((with_reducible refine gate_dst (N := 78) rfl ?_); (try (refine gate_guard (by rfl) ?_; dsimp only)); refine Kd.R_make (Kd.int .i64) _ 3 rfl (N := 78) rfl 24 _ _ rfl (l0_0.length : Int) rfl rfl Try.underlying24 (.int .i64 0) 8 info3 rfl (by decide) (by omega) 0 (ok := fun _ => True) (okp := fun _ => True) rfl (fun _ hk => hk) trivial (of_decide_eq_true (by first | (with_reducible assumption) | assumption)) (Nat.le_trans (Nat.mul_le_mul_right _ (of_decide_eq_true (by first | (with_reducible assumption) | assumption) : (l0_0.length : Int).toNat ≤ 35184372088832)) (by omega)) (Below.refl _ _) (Nat.le_refl _) ?_; intro v118 w38 ho39 hb hg_ hnew_; clear hg_ hnew_; (first | rw [← Ny117.out] at ho39 | (simp only [Int.reduceToNat] at ho39; rw [← Ny117.out] at ho39)); have n0_ := Aside0.mk (Kd.S_elder' (by (with_reducible repeat (first | apply Kd.S_alloc | apply Kd.S_drewN | apply Kd.S_drew)); exact HO_7.out) (Kd.R_base ho39) hb); have n1_ := Aside0.mk (Kd.S_elder' (by (with_reducible repeat (first | apply Kd.S_alloc | apply Kd.S_drewN | apply Kd.S_drew)); exact HO_105000.out) (Kd.R_base ho39) hb); have n2_ := Aside0.mk (Kd.R_elder' (by (with_reducible repeat (first | apply Kd.R_alloc | apply Kd.R_drewN | apply Kd.R_drew)); exact HL116_0.out) (Kd.R_base ho39) hb); have n3_ := Aside0.mk (Kd.R_lower (Kd.R_new' ho39 (Kd.R_lt (by (with_reducible repeat (first | apply Kd.R_alloc | apply Kd.R_drewN | apply Kd.R_drew)); exact HL116_0.out))) (below_size (by repeat (first | (with_reducible first | exact HB.out | apply below_alloc | apply pw_below_drewN | apply below_drew1 | refine below_set ?_ GE101.out | refine below_set ?_ GE104.out) | exact HB.out)))); have n4_ := Aside0.mk (blk_below (g := gb101) (o := .cells #[.slice A0_0 l0_0.length c0_0, .slice A0_1 l0_1.length c0_1] 41 (0, 0)) (by (with_reducible repeat (first | refine blk_drewN ?_ _ | refine blk_drew ?_ | refine blk_alloc ?_ _)); exact BK101.out) hb); have n5_ := Aside0.mk (blk_below (g := gb104) (o := .cells #[.slice Ao26 t105.length co26, .slice A0_1 l0_1.length c0_1] 41 (0, 0)) (by (with_reducible repeat (first | refine blk_drewN ?_ _ | refine blk_drew ?_ | refine blk_alloc ?_ _)); exact BK104.out) hb); have n6_ := Aside0.mk (Kd.C_below (by repeat (first | (with_reducible exact HR116_0.out) | (with_reducible refine Kd.C_alloc ?_ _) | (with_reducible refine Kd.C_drewN ?_ _) | (with_reducible refine Kd.C_drew ?_) | exact HR116_0.out)) hb); have n7_ := Aside0.mk (below_step (by repeat (first | (with_reducible first | exact HB.out | apply below_alloc | apply pw_below_drewN | apply below_drew1 | refine below_set ?_ GE101.out | refine below_set ?_ GE104.out) | exact HB.out)) hb); clear HO_7; clear HO_105000; clear HL116_0; clear BK101; clear BK104; clear HR116_0; clear HB; have HO_7 := n0_; have HO_105000 := n1_; have HL116_0 := n2_; have HO119 := n3_; have BK101 := n4_; have BK104 := n5_; have HR116_0 := n6_; have HB := n7_; clear n0_ n1_ n2_ n3_ n4_ n5_ n6_ n7_; clear hb ho39))
               go_loopg [12] k2 (fun kq v12 w' => ∃ (x11_3 : List Int) (x12_3 : Int), v12 = .int .i64 x12_3 ∧ Aside0 (trishawlaw02_JamSame.l1 kq a1 t111 (l0_0.length : Int) x10_2 x11_3 x12_3 t105 l0_1 = some r) ∧ Aside0 (kq ≤ k2) ∧ Aside0 (Kd.S (Kd.slice 3 (Kd.int .i64)) 24 w' w.heap.size (fun k_ => some k_ ≠ (v118 : Value).ownBlock ∧ some k_ ≠ ((.slice Ao26 t105.length co26) : Value).ownBlock) (.slice (some ad116) t111.length co37) t111) ∧ Aside0 (Kd.R (Kd.int .i64) 3 w' w.heap.size (fun _ => True) v118 x11_3) ∧ Aside0 (Kd.S (FX w) 24 w' w.heap.size (fun k_ => some k_ ≠ ((.slice (some ad116) t111.length co37) : Value).ownBlock ∧ some k_ ≠ (v118 : Value).ownBlock) (.slice Ao26 t105.length co26) t105) ∧ Aside0 (w'.heap[gb101]? = some (.cells #[(.slice A0_0 l0_0.length c0_0), (.slice A0_1 l0_1.length c0_1)] 41 (0, 0))) ∧ Aside0 (w'.heap[gb104]? = some (.cells #[(.slice Ao26 t105.length co26), (.slice A0_1 l0_1.length c0_1)] 41 (0, 0))) ∧ Aside0 True ∧ Aside0 (Below w.heap.size w w'))
               case atStart => exact ⟨(y117), (0), (by first | rfl | (simp; done) | (simp [*]; done)), H', ⟨Nat.le_refl _⟩, ⟨by (with_reducible repeat (first | apply Kd.S_alloc | apply Kd.S_drewN | apply Kd.S_drew)); exact Kd.S_mono HO_7.out (fun _ hk => ⟨hk.2, hk.1⟩)⟩, ⟨by (with_reducible repeat (first | apply Kd.R_alloc | apply Kd.R_drewN | apply Kd.R_drew)); exact Kd.R_mono HO119.out (fun _ hk => trivial)⟩, ⟨by (with_reducible repeat (first | apply Kd.S_alloc | apply Kd.S_drewN | apply Kd.S_drew)); exact HO_105000.out⟩, ⟨by (with_reducible repeat (first | refine blk_drewN ?_ _ | refine blk_drew ?_ | refine blk_alloc ?_ _)); exact BK101.out⟩, ⟨by (with_reducible repeat (first | refine blk_drewN ?_ _ | refine blk_drew ?_ | refine blk_alloc ?_ _)); exact BK104.out⟩, ⟨trivial⟩, ⟨by repeat (first | (with_reducible first | exact HB.out | apply below_alloc | apply pw_below_drewN | apply below_drew1 | refine below_set ?_ GE101.out | refine below_set ?_ GE104.out) | exact HB.out)⟩⟩
               case round =>
                clear H'
                try clear c1
                try clear p1
                try clear q1
                try clear hx1
                try clear c2
                try clear p2
                try clear c3
                try clear c6
                try clear c11
                try clear p11
                try clear q11
                try clear hx11
                try clear c12
                try clear c16
                try clear c17
                try clear c19
                try clear c19b0
                try clear c19b1
                try clear c22
                try clear c24
                try clear c25
                try clear c32
                try clear c32b0
                try clear c33
                try clear c33b0
                try clear c34
                try clear c34b0
                try clear c34b1
                try clear c34b2
                try clear c35
                try clear c35b0
                try clear c35b1
                try clear c36
                try clear c36b0
                try clear c36b1
                try clear c37
                try clear hcz10_0
                try clear hcz10_1
                try clear hcz20_0
                try clear hcz20_1
                try clear hcz23_0
                try clear hcz23_1
                try clear hcz24_0
                try clear hcz24_1
                try clear hcz27_0
                try clear hcz27_1
                try clear hcz29_0
                try clear hcz29_1
                try clear hcz31_0
                try clear hcz31_1
                try clear hcz7_0
                try clear hcz7_1
                try clear hcz9_0
                try clear hcz9_1
                try clear hfz10_0
                try clear hfz10_1
                try clear hfz20_0
                try clear hfz20_1
                try clear hfz23_0
                try clear hfz23_1
                try clear hfz24_0
                try clear hfz24_1
                try clear hfz27_0
                try clear hfz27_1
                try clear hfz29_0
                try clear hfz29_1
                try clear hfz31_0
                try clear hfz31_1
                try clear hfz7_0
                try clear hfz7_1
                try clear hfz9_0
                try clear hfz9_1
                try clear hx116_0
                try clear p116
                try clear p2
                try clear q116
                obtain ⟨x11_3, x12_3, rfl, HA, HK3, HO_7, HO_11, HO_105000, BK101, BK104, HR116_0, HB⟩ := hrel
                cases gk with
                | zero => exact absurd HA.out (by simp [trishawlaw02_JamSame.l1])
                | succ k3 =>
                 have H := HA.out
                 clear HA
                 simp only [trishawlaw02_JamSame.l1] at H
                 by_cases c40 : x12_3 < (l0_0.length : Int)
                 ·rw [if_pos c40] at H
                  have c40b0 : decide (x12_3 < (l0_0.length : Int)) = true := decide_eq_true c40
                  clear c40
                  by_cases c41 : (l0_0.length : Int) = 0
                  ·rw [if_pos c41] at H
                   exact absurd H (by simp)
                  ·rw [if_neg c41] at H
                   have c41b0 : ((l0_0.length : Int) == 0) = false := beq_eq_false_iff_ne.mpr c41
                   have c41b1 : ((l0_0.length : Int) != 0) = true := bne_iff_ne.mpr c41
                   have c41b2 : ¬ (l0_0 = []) := fun h_ => c41 (by rw [h_]; rfl)
                   by_cases c42 : 0 ≤ x10_2
                   ·rw [if_pos c42] at H
                    have c42b0 : decide (0 ≤ x10_2) = true := decide_eq_true c42
                    clear c42
                    by_cases c43 : x10_2 < (t111.length : Int)
                    ·rw [if_pos c43] at H
                     have c43b0 : decide (x10_2 < (t111.length : Int)) = true := decide_eq_true c43
                     clear c43
                     by_cases c44 : 0 ≤ x12_3
                     ·rw [if_pos c44] at H
                      have c44b0 : decide (0 ≤ x12_3) = true := decide_eq_true c44
                      clear c44
                      by_cases c45 : x12_3 < ((rd_L12 t111 x10_2).length : Int)
                      ·rw [if_pos c45] at H
                       have c45b0 : decide (x12_3 < ((rd_L12 t111 x10_2).length : Int)) = true := decide_eq_true c45
                       clear c45
                       obtain ⟨ji46, hji46⟩ : ∃ j_ : Int, (Int.tmod (wrap64 (x12_3 + (wrap64 (a1)))) (l0_0.length : Int)) = j_ := ⟨_, rfl⟩
                       replace H : (if 0 ≤ (ji46) then (if (ji46) < (x11_3.length : Int) then (trishawlaw02_JamSame.l1 k3 a1 t111 (l0_0.length : Int) x10_2 (x11_3.set ((ji46) : Int).toNat (rd (rd_L12 t111 x10_2) x12_3)) (wrap64 (x12_3 + 1)) t105 l0_1) else (none)) else (none)) = some r := by first | (rw [hji46] at H; exact H) | (simp only [hji46] at H ⊢; exact H)
                       by_cases c47 : 0 ≤ (ji46)
                       ·rw [if_pos c47] at H
                        have c47b0 : decide (0 ≤ (ji46)) = true := decide_eq_true c47
                        clear c47
                        by_cases c48 : (ji46) < (x11_3.length : Int)
                        ·rw [if_pos c48] at H
                         have c48b0 : decide ((ji46) < (x11_3.length : Int)) = true := decide_eq_true c48
                         clear c48
                         obtain ⟨y122, hy122⟩ : ∃ y_ : List Int, y_ = (x11_3.set ((ji46) : Int).toNat (rd (rd_L12 t111 x10_2) x12_3)) := ⟨_, rfl⟩
                         replace H : (trishawlaw02_JamSame.l1 k3 a1 t111 (l0_0.length : Int) x10_2 y122 (wrap64 (x12_3 + 1)) t105 l0_1) = some r := by first | (rw [hy122]; with_reducible exact H) | (have H2_ := (Option.bind_some _ _).symm.trans H; rw [hy122]; with_reducible exact H2_) | (have H2_ := (Option.bind_some _ _).symm.trans H; with_reducible exact H2_) | with_reducible exact H | (rw [hy122]; exact H) | exact H
                         have Ny122 := Aside0.mk hy122
                         clear hy122
                         have H' := Aside0.mk H
                         clear H
                         try go_wp2
                         have n0_ := Aside0.mk (Kd.S_drew HO_7.out)
                         have n1_ := Aside0.mk (Kd.R_drew HO_11.out)
                         have n2_ := Aside0.mk (Kd.S_drew HO_105000.out)
                         have n3_ := Aside0.mk (blk_drew BK101.out)
                         have n4_ := Aside0.mk (blk_drew BK104.out)
                         have n5_ := Aside0.mk (trivial : True)
                         have n6_ := Aside0.mk (below_drew1 HB.out)
                         clear HO_7
                         clear HO_11
                         clear HO_105000
                         clear BK101
                         clear BK104
                         clear HR116_0
                         clear HB
                         have HO_7 := n0_
                         have HO_11 := n1_
                         have HO_105000 := n2_
                         have BK101 := n3_
                         have BK104 := n4_
                         have HR116_0 := n5_
                         have HB := n6_
                         clear n0_ n1_ n2_ n3_ n4_ n5_ n6_
                         have p120 : 0 ≤ (x10_2 : Int) := of_decide_eq_true (by first | (with_reducible assumption) | assumption)
                         have q120 : x10_2 < (t111.length : Int) := of_decide_eq_true (by first | (with_reducible assumption) | assumption)
                         obtain ⟨ad120, A120_0, c120_0, e120, hx120_0, hl120_0, hi120_0⟩ := at_L12 (Kd.S_reads' HO_7.out).2.2 x10_2 p120 q120
                         obtain rfl : ad116 = ad120 := (by injection e120)
                         obtain ⟨ce120, hce120, hMe120, hcc120⟩ := Kd.S_get HO_7.out [] x10_2 p120 (by first | exact q120 | exact of_decide_eq_true (by first | (with_reducible assumption) | assumption) | (have e_ := (Kd.S_reads' HO_7.out).1; omega))
                         obtain ⟨ve120_0, rfl, ge120_0⟩ := hMe120
                         have hv120_0 := hcc120 0 _ rfl
                         rw [Nat.add_zero, show ((Kd.slice 3 (Kd.int .i64))).sz = 1 from rfl, Nat.mul_one] at hv120_0
                         replace hv120_0 := Option.some.inj (hv120_0.symm.trans hx120_0)
                         rw [hv120_0] at ge120_0
                         have HL120_0 := Aside0.mk (show Kd.R (Kd.int .i64) 3 _ _ _ _ (rd_L12 t111 x10_2) from ge120_0)
                         clear hv120_0 ge120_0
                         clear hcc120 hce120
                         have HR120_0 := Aside0.mk hi120_0
                         have HC120_0 := Aside0.mk hl120_0
                         clear hi120_0 hl120_0
                         replace p120 := eq_true p120
                         replace q120 := eq_true q120
                         have p121 : 0 ≤ (x12_3 : Int) := of_decide_eq_true (by first | (with_reducible assumption) | assumption)
                         have q121 : x12_3 < ((rd_L12 t111 x10_2).length : Int) := of_decide_eq_true (by first | (with_reducible assumption) | assumption)
                         obtain ⟨ad121, e121, hx121_0⟩ := Kd.at_int (by repeat (first | (with_reducible exact HR120_0.out) | (with_reducible refine Kd.C_alloc ?_ _) | (with_reducible refine Kd.C_drewN ?_ _) | (with_reducible refine Kd.C_drew ?_) | exact HR120_0.out)) x12_3 p121 q121
                         cases e121
                         replace p121 := eq_true p121
                         replace q121 := eq_true q121
                         have p49 : 0 ≤ ((ji46) : Int) := of_decide_eq_true (by first | (with_reducible assumption) | assumption)
                         have q49 : ((ji46) : Int) < ((x11_3.length : Int) : Int) := of_decide_eq_true (by first | (with_reducible assumption) | assumption)
                         obtain ⟨go49, co49, eo49, gb49, gl49, cl49, HG49⟩ := Kd.R_form HO_11.out (by omega)
                         (first | cases eo49 | (injection eo49 with ea_ en_ ec_; (first | subst ea_ | (injection ea_ with ea_; subst ea_)); subst ec_; clear en_))
                         have GB49 := Aside0.mk gb49
                         have GG49 := Aside0.mk HG49
                         clear gb49 gl49 HG49
                         obtain ⟨hx49_0, hf49_0⟩ := Kd.R_celln 0 HO_11.out ((ji46) : Int) p49 q49
                         replace p49 := eq_true p49
                         replace q49 := eq_true q49
                         have HP51 := Kd.R_putn HO_11.out ((ji46) : Int) (rd (rd_L12 t111 x10_2) x12_3)
                         rw [← Ny122.out] at HP51
                         have HQ51 := Aside0.mk HP51
                         clear HP51
                         refine start_ (n := 16) (S := fun w' => w'.cell? (ad116.add (x10_2).toNat) = some (.slice (some ad121) (rd_L12 t111 x10_2).length c120_0) ∧ w'.cell? (ad121.add (x12_3).toNat) = some (.int .i64 (rd (rd_L12 t111 x10_2) x12_3))) (ds := [15]) #[false, false, false, false, false, false, false, false, false, false, false, false, false, false, false, false] (by kernel_rfl) rfl rfl ⟨hx120_0, hx121_0⟩ (fun hHeld => ?_); refine with_tabW trishawlaw02_JamSame.tab23 trishawlaw02_JamSame.bits23 (fun HT_ HW_ => ?_)
                         generalize wr.drew = w50 at HO_7 HO_11 HO_105000 BK101 BK104 HR116_0 HB GG49 HL120_0 HQ51 HR120_0 hf49_0 hx120_0 hx121_0 hx49_0 hHeld ⊢
                         refine pure_ (i := 0) (N := some 84) (v := ?_) (a' := ?_) #[true, false, false, false, false, false, false, false, false, false, false, false, false, false, false, false] rfl rfl (any_of HT_.out (by kernel_rfl)) (fun _ _ _ h => h) (Or.inl ⟨by rfl, ?_⟩) ?_ ?_
                         rotate_left
                         ·intro w'
                          go_simp
                          with_reducible rfl
                         rotate_left
                         ·simp only [Act.put, List.setIfInBounds_toArray, List.set_cons_zero, List.set_cons_succ, i64_w, i32_w]
                          rfl
                         refine pure_ (i := 1) (N := some 85) (v := ?_) (a' := ?_) #[true, true, false, false, false, false, false, false, false, false, false, false, false, false, false, false] rfl rfl (any_of HT_.out (by kernel_rfl)) (fun _ _ _ h => h) (Or.inl ⟨by rfl, ?_⟩) ?_ ?_
                         rotate_left
                         ·intro w'
                          go_simp
                          with_reducible rfl
                         rotate_left
                         ·simp only [Act.put, List.setIfInBounds_toArray, List.set_cons_zero, List.set_cons_succ, i64_w, i32_w]
                          rfl
                         refine pure_ (i := 2) (N := some 86) (v := ?_) (a' := ?_) #[true, true, true, false, false, false, false, false, false, false, false, false, false, false, false, false] rfl rfl (any_of HT_.out (by kernel_rfl)) (fun _ _ _ h => h) (Or.inl ⟨by rfl, ?_⟩) ?_ ?_
                         rotate_left
                         ·intro w'
                          go_simp
                          with_reducible rfl
                         rotate_left
                         ·simp only [Act.put, List.setIfInBounds_toArray, List.set_cons_zero, List.set_cons_succ, i64_w, i32_w]
                          rfl
                         refine pure_ (i := 3) (N := some 87) (v := ?_) (a' := ?_) #[true, true, true, true, false, false, false, false, false, false, false, false, false, false, false, false] rfl rfl (any_of HT_.out (by kernel_rfl)) (fun _ _ _ h => h) (Or.inl ⟨by rfl, ?_⟩) ?_ ?_
                         rotate_left
                         ·intro w'
                          go_simp
                          with_reducible rfl
                         rotate_left
                         ·simp only [Act.put, List.setIfInBounds_toArray, List.set_cons_zero, List.set_cons_succ, i64_w, i32_w]
                          rfl
                         refine pure_ (i := 4) (N := some 88) (v := ?_) (a' := ?_) #[true, true, true, true, true, false, false, false, false, false, false, false, false, false, false, false] rfl rfl (any_of HT_.out (by kernel_rfl)) (fun _ _ _ h => h) (Or.inl ⟨by rfl, ?_⟩) ?_ ?_
                         rotate_left
                         ·intro w'
                          go_simp
                          with_reducible rfl
                         rotate_left
                         ·simp only [Act.put, List.setIfInBounds_toArray, List.set_cons_zero, List.set_cons_succ, i64_w, i32_w]
                          rfl
                         refine pure_ (i := 5) (N := some 89) (v := ?_) (a' := ?_) #[true, true, true, true, true, true, false, false, false, false, false, false, false, false, false, false] rfl rfl (any_of HT_.out (by kernel_rfl)) (fun _ _ _ h => h) (Or.inl ⟨by rfl, ?_⟩) ?_ ?_
                         rotate_left
                         ·intro w'
                          go_simp
                          with_reducible rfl
                         rotate_left
                         ·simp only [Act.put, List.setIfInBounds_toArray, List.set_cons_zero, List.set_cons_succ, i64_w, i32_w]
                          rfl
                         refine pure_ (i := 6) (N := some 90) (v := ?_) (a' := ?_) #[true, true, true, true, true, true, true, false, false, false, false, false, false, false, false, false] rfl rfl (any_of HT_.out (by kernel_rfl)) (fun _ _ _ h => h) (Or.inl ⟨by rfl, ?_⟩) ?_ ?_
                         rotate_left
                         ·intro w'
                          go_simp
                          with_reducible rfl
                         rotate_left
                         ·simp only [Act.put, List.setIfInBounds_toArray, List.set_cons_zero, List.set_cons_succ, i64_w, i32_w]
                          rfl
                         refine pure_ (i := 7) (N := some 91) (v := ?_) (a' := ?_) #[true, true, true, true, true, true, true, true, false, false, false, false, false, false, false, false] rfl rfl (any_of HT_.out (by kernel_rfl)) (fun _ _ _ h => h) (Or.inl ⟨by rfl, ?_⟩) ?_ ?_
                         rotate_left
                         ·intro w'
                          go_simp
                          with_reducible rfl
                         rotate_left
                         ·simp only [Act.put, List.setIfInBounds_toArray, List.set_cons_zero, List.set_cons_succ, i64_w, i32_w]
                          rfl
                         refine pure_ (i := 8) (N := some 92) (v := ?_) (a' := ?_) #[true, true, true, true, true, true, true, true, true, false, false, false, false, false, false, false] rfl rfl (any_of HT_.out (by kernel_rfl)) (fun _ _ _ h => h) (Or.inl ⟨by rfl, ?_⟩) ?_ ?_
                         rotate_left
                         ·intro w'
                          go_simp
                          with_reducible rfl
                         rotate_left
                         ·simp only [Act.put, List.setIfInBounds_toArray, List.set_cons_zero, List.set_cons_succ, i64_w, i32_w]
                          rfl
                         refine pure_ (i := 9) (N := some 93) (v := ?_) (a' := ?_) #[true, true, true, true, true, true, true, true, true, true, false, false, false, false, false, false] rfl rfl (any_of HT_.out (by kernel_rfl)) (fun _ _ _ h => h) (Or.inl ⟨by rfl, ?_⟩) ?_ ?_
                         rotate_left
                         ·intro w'
                          go_simp
                          with_reducible rfl
                         rotate_left
                         ·simp only [Act.put, List.setIfInBounds_toArray, List.set_cons_zero, List.set_cons_succ, i64_w, i32_w]
                          rfl
                         refine pure_ (i := 11) (N := some 95) (v := ?_) (a' := ?_) #[true, true, true, true, true, true, true, true, true, true, false, true, false, false, false, false] rfl rfl (any_of HT_.out (by kernel_rfl)) (fun _ _ _ h => h) (Or.inl ⟨by rfl, ?_⟩) ?_ ?_
                         rotate_left
                         ·intro w'
                          go_simp
                          with_reducible rfl
                         rotate_left
                         ·simp only [Act.put, List.setIfInBounds_toArray, List.set_cons_zero, List.set_cons_succ, i64_w, i32_w]
                          rfl
                         refine take_ (i := 10) (N := some 94) (v := ?_) (a' := ?_) #[true, true, true, true, true, true, true, true, true, true, true, true, false, false, false, false] rfl rfl (take_ofW HT_.out HW_.out (by kernel_rfl)) (fun _ _ _ h => h) (Or.inl ⟨by rfl, ?_⟩) hHeld ?_ ?_
                         rotate_left
                         ·rintro w' ⟨s0, s1⟩
                          go_simp
                          with_reducible rfl
                         rotate_left
                         ·simp only [Act.put, List.setIfInBounds_toArray, List.set_cons_zero, List.set_cons_succ, i64_w, i32_w]
                          rfl
                         refine pure_ (i := 12) (N := some 96) (v := ?_) (a' := ?_) #[true, true, true, true, true, true, true, true, true, true, true, true, true, false, false, false] rfl rfl (any_of HT_.out (by kernel_rfl)) (fun _ _ _ h => h) (Or.inl ⟨by rfl, ?_⟩) ?_ ?_
                         rotate_left
                         ·intro w'
                          go_simp
                          with_reducible rfl
                         rotate_left
                         ·simp only [Act.put, List.setIfInBounds_toArray, List.set_cons_zero, List.set_cons_succ, i64_w, i32_w]
                          rfl
                         refine take_ (i := 13) (N := some 97) (v := ?_) (a' := ?_) #[true, true, true, true, true, true, true, true, true, true, true, true, true, true, false, false] rfl rfl (take_ofW HT_.out HW_.out (by kernel_rfl)) (fun _ _ _ h => h) (Or.inl ⟨by rfl, ?_⟩) hHeld ?_ ?_
                         rotate_left
                         ·rintro w' ⟨s0, s1⟩
                          go_simp
                          with_reducible rfl
                         rotate_left
                         ·simp only [Act.put, List.setIfInBounds_toArray, List.set_cons_zero, List.set_cons_succ, i64_w, i32_w]
                          rfl
                         refine pure_ (i := 14) (N := some 98) (v := ?_) (a' := ?_) #[true, true, true, true, true, true, true, true, true, true, true, true, true, true, true, false] rfl rfl (any_of HT_.out (by kernel_rfl)) (fun _ _ _ h => h) (Or.inl ⟨by rfl, ?_⟩) ?_ ?_
                         rotate_left
                         ·intro w'
                          go_simp
                          with_reducible rfl
                         rotate_left
                         ·simp only [Act.put, List.setIfInBounds_toArray, List.set_cons_zero, List.set_cons_succ, i64_w, i32_w]
                          rfl
                         refine last_ (i := 15) (N := none) #[true, true, true, true, true, true, true, true, true, true, true, true, true, true, true, true] rfl rfl (one_of HT_.out (by kernel_rfl)) (by decide) (fun K hK => ?_)
                         refine skip_ (w1 := ?_) (by rfl) rfl ?_ ?_
                         rotate_left
                         ·go_simp
                          rfl
                         refine hK.out _ _ ?_
                         clear hK K
                         refine done_ (done_of HT_.out (by kernel_rfl)) ?_
                         try go_wp2
                         go_roundg k3
                         case measure => have := HJ2.out; have := HK2.out; have := HK3.out; omega
                         case rel => exact ⟨(y122), (wrap64 (x12_3 + 1)), (by first | rfl | (simp; done) | (simp [*]; done)), H', ⟨by have := HJ2.out; have := HK2.out; have := HK3.out; omega⟩, ⟨by (with_reducible repeat (first | apply Kd.S_alloc | apply Kd.S_drewN | apply Kd.S_drew)); exact Kd.S_mono (Kd.S_far (p := ⟨go49, ((ji46) : Int).toNat, none⟩) (Kd.S_mono HO_7.out (fun k_ hk => (⟨hk, fun e_ => hk.1 (by rw [e_]; rfl)⟩ : _ ∧ k_ ≠ go49))) (fun _ hk => hk.2) (.int .i64 (rd (rd_L12 t111 x10_2) x12_3))) (fun _ hk => ⟨hk.1.1, hk.1.2⟩)⟩, ⟨by (with_reducible repeat (first | apply Kd.R_alloc | apply Kd.R_drewN | apply Kd.R_drew)); exact HQ51.out⟩, ⟨by (with_reducible repeat (first | apply Kd.S_alloc | apply Kd.S_drewN | apply Kd.S_drew)); exact Kd.S_mono (Kd.S_far (p := ⟨go49, ((ji46) : Int).toNat, none⟩) (Kd.S_mono HO_105000.out (fun k_ hk => (⟨hk, fun e_ => hk.2 (by rw [e_]; rfl)⟩ : _ ∧ k_ ≠ go49))) (fun _ hk => hk.2) (.int .i64 (rd (rd_L12 t111 x10_2) x12_3))) (fun _ hk => ⟨hk.1.1, hk.1.2⟩)⟩, ⟨by (with_reducible repeat (first | refine blk_drewN ?_ _ | refine blk_drew ?_ | refine blk_alloc ?_ _)); refine blk_far ?_ (by have h_ := Kd.R_ne HO_11.out BK101.out (by decide); intro e_; exact h_ (by rw [e_]; rfl)) _; (with_reducible repeat (first | refine blk_drewN ?_ _ | refine blk_drew ?_ | refine blk_alloc ?_ _)); exact BK101.out⟩, ⟨by (with_reducible repeat (first | refine blk_drewN ?_ _ | refine blk_drew ?_ | refine blk_alloc ?_ _)); refine blk_far ?_ (by have h_ := Kd.R_ne HO_11.out BK104.out (by decide); intro e_; exact h_ (by rw [e_]; rfl)) _; (with_reducible repeat (first | refine blk_drewN ?_ _ | refine blk_drew ?_ | refine blk_alloc ?_ _)); exact BK104.out⟩, ⟨trivial⟩, ⟨by repeat (first | (with_reducible first | exact HB.out | apply below_alloc | apply pw_below_drewN | apply below_drew1 | refine below_set ?_ GB49.out | refine below_set ?_ GE101.out | refine below_set ?_ GE104.out) | exact HB.out)⟩⟩
                        ·rw [if_neg c48] at H
                         exact absurd H (by simp)
                       ·rw [if_neg c47] at H
                        exact absurd H (by simp)
                      ·rw [if_neg c45] at H
                       exact absurd H (by simp)
                     ·rw [if_neg c44] at H
                      exact absurd H (by simp)
                    ·rw [if_neg c43] at H
                     exact absurd H (by simp)
                   ·rw [if_neg c42] at H
                    exact absurd H (by simp)
                 ·rw [if_neg c40] at H
                  have c40b0 : decide (x12_3 < (l0_0.length : Int)) = false := decide_eq_false c40
                  clear c40
                  have H' := Aside0.mk H
                  clear H
                  go_wp2
                  go_loopg [13, 14] k3 (fun kq v13 v14 w' => ∃ (x13_4 : Bool) (x14_4 : Int), v13 = .bool x13_4 ∧ v14 = .int .i64 x14_4 ∧ Aside0 (trishawlaw02_JamSame.l2 kq a1 t111 (l0_0.length : Int) x10_2 x11_3 x13_4 x14_4 t105 l0_1 = some r) ∧ Aside0 (kq ≤ k3) ∧ Aside0 (Kd.S (Kd.slice 3 (Kd.int .i64)) 24 w' w.heap.size (fun k_ => some k_ ≠ (v118 : Value).ownBlock ∧ some k_ ≠ ((.slice Ao26 t105.length co26) : Value).ownBlock) (.slice (some ad116) t111.length co37) t111) ∧ Aside0 (Kd.R (Kd.int .i64) 3 w' w.heap.size (fun _ => True) v118 x11_3) ∧ Aside0 (Kd.S (FX w) 24 w' w.heap.size (fun k_ => some k_ ≠ ((.slice (some ad116) t111.length co37) : Value).ownBlock ∧ some k_ ≠ (v118 : Value).ownBlock) (.slice Ao26 t105.length co26) t105) ∧ Aside0 (w'.heap[gb101]? = some (.cells #[(.slice A0_0 l0_0.length c0_0), (.slice A0_1 l0_1.length c0_1)] 41 (0, 0))) ∧ Aside0 (w'.heap[gb104]? = some (.cells #[(.slice Ao26 t105.length co26), (.slice A0_1 l0_1.length c0_1)] 41 (0, 0))) ∧ Aside0 True ∧ Aside0 (Below w.heap.size w w'))
                  case atStart => exact ⟨(false), (0), (by first | rfl | (simp; done) | (simp [*]; done)), (by first | rfl | (simp; done) | (simp [*]; done)), H', ⟨Nat.le_refl _⟩, ⟨by (with_reducible repeat (first | apply Kd.S_alloc | apply Kd.S_drewN | apply Kd.S_drew)); exact HO_7.out⟩, ⟨by (with_reducible repeat (first | apply Kd.R_alloc | apply Kd.R_drewN | apply Kd.R_drew)); exact HO_11.out⟩, ⟨by (with_reducible repeat (first | apply Kd.S_alloc | apply Kd.S_drewN | apply Kd.S_drew)); exact HO_105000.out⟩, ⟨by (with_reducible repeat (first | refine blk_drewN ?_ _ | refine blk_drew ?_ | refine blk_alloc ?_ _)); exact BK101.out⟩, ⟨by (with_reducible repeat (first | refine blk_drewN ?_ _ | refine blk_drew ?_ | refine blk_alloc ?_ _)); exact BK104.out⟩, ⟨trivial⟩, ⟨by repeat (first | (with_reducible first | exact HB.out | apply below_alloc | apply pw_below_drewN | apply below_drew1 | refine below_set ?_ GE101.out | refine below_set ?_ GE104.out) | exact HB.out)⟩⟩
                  case round =>
                   clear H'
                   try clear c1
                   try clear p1
                   try clear q1
                   try clear hx1
                   try clear c2
                   try clear p2
                   try clear c3
                   try clear c4
                   try clear p4
                   try clear q4
                   try clear hx4
                   try clear hf4
                   try clear c6
                   try clear p6
                   try clear c11
                   try clear p11
                   try clear q11
                   try clear hx11
                   try clear c12
                   try clear p12
                   try clear q12
                   try clear hx12
                   try clear c16
                   try clear c17
                   try clear c19
                   try clear c19b0
                   try clear c19b1
                   try clear c22
                   try clear c24
                   try clear c25
                   try clear c32
                   try clear c32b0
                   try clear c33
                   try clear c33b0
                   try clear c34
                   try clear c34b0
                   try clear c34b1
                   try clear c34b2
                   try clear c35
                   try clear c35b0
                   try clear c35b1
                   try clear c36
                   try clear c36b0
                   try clear c36b1
                   try clear c37
                   try clear c40
                   try clear c40b0
                   try clear c41
                   try clear c41b0
                   try clear c41b1
                   try clear c41b2
                   try clear c42
                   try clear c42b0
                   try clear c43
                   try clear c43b0
                   try clear c44
                   try clear c44b0
                   try clear c45
                   try clear c45b0
                   try clear c47
                   try clear c47b0
                   try clear c48
                   try clear c48b0
                   try clear p49
                   try clear q49
                   try clear hx49
                   try clear hf49
                   try clear hcz10_0
                   try clear hcz10_1
                   try clear hcz20_0
                   try clear hcz20_1
                   try clear hcz23_0
                   try clear hcz23_1
                   try clear hcz24_0
                   try clear hcz24_1
                   try clear hcz27_0
                   try clear hcz27_1
                   try clear hcz29_0
                   try clear hcz29_1
                   try clear hcz31_0
                   try clear hcz31_1
                   try clear hcz7_0
                   try clear hcz7_1
                   try clear hcz9_0
                   try clear hcz9_1
                   try clear hfz10_0
                   try clear hfz10_1
                   try clear hfz20_0
                   try clear hfz20_1
                   try clear hfz23_0
                   try clear hfz23_1
                   try clear hfz24_0
                   try clear hfz24_1
                   try clear hfz27_0
                   try clear hfz27_1
                   try clear hfz29_0
                   try clear hfz29_1
                   try clear hfz31_0
                   try clear hfz31_1
                   try clear hfz7_0
                   try clear hfz7_1
                   try clear hfz9_0
                   try clear hfz9_1
                   try clear hx116_0
                   try clear hx120_0
                   try clear hx121_0
                   try clear hx49_0
                   try clear p1
                   try clear p11
                   try clear p116
                   try clear p120
                   try clear p121
                   try clear p2
                   try clear p49
                   try clear q1
                   try clear q11
                   try clear q116
                   try clear q120
                   try clear q121
                   try clear q49
                   obtain ⟨x13_4, x14_4, rfl, rfl, HA, HK4, HO_7, HO_11, HO_105000, BK101, BK104, HR116_0, HB⟩ := hrel
                   cases gk with
                   | zero => exact absurd HA.out (by simp [trishawlaw02_JamSame.l2])
                   | succ k4 =>
                    have H := HA.out
                    clear HA
                    simp only [trishawlaw02_JamSame.l2] at H
                    by_cases c52 : x14_4 < (t111.length : Int)
                    ·rw [if_pos c52] at H
                     have c52b0 : decide (x14_4 < (t111.length : Int)) = true := decide_eq_true c52
                     clear c52
                     by_cases c53 : x13_4 = true
                     ·subst c53
                      have H1 : (trishawlaw02_JamSame.l2 k4 a1 t111 (l0_0.length : Int) x10_2 x11_3 true (wrap64 (x14_4 + 1)) t105 l0_1) = some r := by rw [if_pos rfl] at H; exact H
                      clear H
                      have H := H1
                      clear H1
                      have H' := Aside0.mk H
                      clear H
                      go_wp2
                      go_roundg k4
                      case measure => have := HJ2.out; have := HK2.out; have := HK3.out; have := HK4.out; omega
                      case rel => exact ⟨(true), (wrap64 (x14_4 + 1)), (by first | rfl | (simp; done) | (simp [*]; done)), (by first | rfl | (simp; done) | (simp [*]; done)), H', ⟨by have := HJ2.out; have := HK2.out; have := HK3.out; have := HK4.out; omega⟩, ⟨by (with_reducible repeat (first | apply Kd.S_alloc | apply Kd.S_drewN | apply Kd.S_drew)); exact HO_7.out⟩, ⟨by (with_reducible repeat (first | apply Kd.R_alloc | apply Kd.R_drewN | apply Kd.R_drew)); exact HO_11.out⟩, ⟨by (with_reducible repeat (first | apply Kd.S_alloc | apply Kd.S_drewN | apply Kd.S_drew)); exact HO_105000.out⟩, ⟨by (with_reducible repeat (first | refine blk_drewN ?_ _ | refine blk_drew ?_ | refine blk_alloc ?_ _)); exact BK101.out⟩, ⟨by (with_reducible repeat (first | refine blk_drewN ?_ _ | refine blk_drew ?_ | refine blk_alloc ?_ _)); exact BK104.out⟩, ⟨trivial⟩, ⟨by repeat (first | (with_reducible first | exact HB.out | apply below_alloc | apply pw_below_drewN | apply below_drew1 | refine below_set ?_ GE101.out | refine below_set ?_ GE104.out) | exact HB.out)⟩⟩
                     ·replace c53 := Bool.eq_false_iff.mpr c53
                      subst c53
                      have H1 : (if 0 ≤ x14_4 then ((trishawlaw02_same.f k4 (rd_L12 t111 x14_4) x11_3).bind fun t124 => (trishawlaw02_JamSame.l2 k4 a1 t111 (l0_0.length : Int) x10_2 x11_3 t124 (wrap64 (x14_4 + 1)) t105 l0_1)) else (none)) = some r := by rw [if_neg (show ¬ (false = true) by decide)] at H; exact H
                      clear H
                      have H := H1
                      clear H1
                      by_cases c54 : 0 ≤ x14_4
                      ·rw [if_pos c54] at H
                       have c54b0 : decide (0 ≤ x14_4) = true := decide_eq_true c54
                       clear c54
                       replace H := Option.bind_eq_some_iff.mp H
                       obtain ⟨t124, A550, H⟩ := H
                       replace H : (trishawlaw02_JamSame.l2 k4 a1 t111 (l0_0.length : Int) x10_2 x11_3 t124 (wrap64 (x14_4 + 1)) t105 l0_1) = some r := H
                       have A55 := Aside0.mk A550
                       clear A550
                       have H' := Aside0.mk H
                       clear H
                       have p123 : 0 ≤ (x14_4 : Int) := of_decide_eq_true (by first | (with_reducible assumption) | assumption)
                       have q123 : x14_4 < (t111.length : Int) := of_decide_eq_true (by first | (with_reducible assumption) | assumption)
                       obtain ⟨ad123, A123_0, c123_0, e123, hx123_0, hl123_0, hi123_0⟩ := at_L12 (Kd.S_reads' HO_7.out).2.2 x14_4 p123 q123
                       obtain rfl : ad116 = ad123 := (by injection e123)
                       obtain ⟨ce123, hce123, hMe123, hcc123⟩ := Kd.S_get HO_7.out [] x14_4 p123 (by first | exact q123 | exact of_decide_eq_true (by first | (with_reducible assumption) | assumption) | (have e_ := (Kd.S_reads' HO_7.out).1; omega))
                       obtain ⟨ve123_0, rfl, ge123_0⟩ := hMe123
                       have hv123_0 := hcc123 0 _ rfl
                       rw [Nat.add_zero, show ((Kd.slice 3 (Kd.int .i64))).sz = 1 from rfl, Nat.mul_one] at hv123_0
                       replace hv123_0 := Option.some.inj (hv123_0.symm.trans hx123_0)
                       rw [hv123_0] at ge123_0
                       have HL123_0 := Aside0.mk (show Kd.R (Kd.int .i64) 3 _ _ _ _ (rd_L12 t111 x14_4) from ge123_0)
                       clear hv123_0 ge123_0
                       clear hcc123 hce123
                       have HR123_0 := Aside0.mk hi123_0
                       have HC123_0 := Aside0.mk hl123_0
                       clear hi123_0 hl123_0
                       replace p123 := eq_true p123
                       replace q123 := eq_true q123
                       obtain ⟨Ao56, co56, eo56⟩ := Kd.R_slice HO_11.out
                       subst eo56
                       go_wp2_with (first | (go_at_call 31; (with_reducible refine (trishawlaw02_same.calls k4 _ _ (rd_L12 t111 x14_4) _ _ x11_3 t124 _ ?side1 ?side2 ?side3 ?side4 A55.out).mono ?_); (case side1 => repeat (first | exact (by repeat (first | (with_reducible exact HR123_0.out) | (with_reducible refine Kd.C_alloc ?_ _) | (with_reducible refine Kd.C_drewN ?_ _) | (with_reducible refine Kd.C_drew ?_) | exact HR123_0.out)) | (with_reducible refine Kd.C_alloc ?_ _) | (with_reducible refine Kd.C_drewN ?_ _) | (with_reducible refine Kd.C_drew ?_))); (case side2 => exact HC123_0.out); (case side3 => repeat (first | exact (Kd.R_reads' HO_11.out).2.2 | (with_reducible refine Kd.C_alloc ?_ _) | (with_reducible refine Kd.C_drewN ?_ _) | (with_reducible refine Kd.C_drew ?_))); (case side4 => exact (Kd.R_reads' HO_11.out).2.1); rintro e w' ⟨rfl, ⟨nd, rfl⟩⟩))
                       go_roundg k4
                       case measure => have := HJ2.out; have := HK2.out; have := HK3.out; have := HK4.out; omega
                       case rel => exact ⟨(t124), (wrap64 (x14_4 + 1)), (by first | rfl | (simp; done) | (simp [*]; done)), (by first | rfl | (simp; done) | (simp [*]; done)), H', ⟨by have := HJ2.out; have := HK2.out; have := HK3.out; have := HK4.out; omega⟩, ⟨by (with_reducible repeat (first | apply Kd.S_alloc | apply Kd.S_drewN | apply Kd.S_drew)); exact HO_7.out⟩, ⟨by (with_reducible repeat (first | apply Kd.R_alloc | apply Kd.R_drewN | apply Kd.R_drew)); exact HO_11.out⟩, ⟨by (with_reducible repeat (first | apply Kd.S_alloc | apply Kd.S_drewN | apply Kd.S_drew)); exact HO_105000.out⟩, ⟨by (with_reducible repeat (first | refine blk_drewN ?_ _ | refine blk_drew ?_ | refine blk_alloc ?_ _)); exact BK101.out⟩, ⟨by (with_reducible repeat (first | refine blk_drewN ?_ _ | refine blk_drew ?_ | refine blk_alloc ?_ _)); exact BK104.out⟩, ⟨trivial⟩, ⟨by repeat (first | (with_reducible first | exact HB.out | apply below_alloc | apply pw_below_drewN | apply below_drew1 | refine below_set ?_ GE101.out | refine below_set ?_ GE104.out) | exact HB.out)⟩⟩
                      ·rw [if_neg c54] at H
                       exact absurd H (by simp)
                    ·rw [if_neg c52] at H
                     have c52b0 : decide (x14_4 < (t111.length : Int)) = false := decide_eq_false c52
                     clear c52
                     by_cases c57 : 0 ≤ x10_2
                     ·rw [if_pos c57] at H
                      have c57b0 : decide (0 ≤ x10_2) = true := decide_eq_true c57
                      clear c57
                      by_cases c58 : x10_2 < (t111.length : Int)
                      ·rw [if_pos c58] at H
                       have c58b0 : decide (x10_2 < (t111.length : Int)) = true := decide_eq_true c58
                       clear c58
                       replace H := Option.bind_eq_some_iff.mp H
                       obtain ⟨⟨t126, t129, t130⟩, A590, H⟩ := H
                       replace H : ((jam_Costs.f k4 t105 l0_1 x11_3).bind fun bt131 => (if x13_4 = true then (if t130 = 0 then (if bt131.2.2 = 0 then (if t129 = bt131.2.1 then (trishawlaw02_JamSame.l0 k4 a1 t111 (l0_0.length : Int) (wrap64 (x10_2 + 1)) t105 l0_1) else (some false)) else (some false)) else (some false)) else (some false))) = some r := H
                       have A59 := Aside0.mk A590
                       clear A590
                       replace H := Option.bind_eq_some_iff.mp H
                       obtain ⟨⟨t131, t134, t135⟩, A600, H⟩ := H
                       replace H : (if x13_4 = true then (if t130 = 0 then (if t135 = 0 then (if t129 = t134 then (trishawlaw02_JamSame.l0 k4 a1 t111 (l0_0.length : Int) (wrap64 (x10_2 + 1)) t105 l0_1) else (some false)) else (some false)) else (some false)) else (some false)) = some r := H
                       have A60 := Aside0.mk A600
                       clear A600
                       by_cases c61 : x13_4 = true
                       ·subst c61
                        have H1 : (if t130 = 0 then (if t135 = 0 then (if t129 = t134 then (trishawlaw02_JamSame.l0 k4 a1 t111 (l0_0.length : Int) (wrap64 (x10_2 + 1)) t105 l0_1) else (some false)) else (some false)) else (some false)) = some r := by rw [if_pos rfl] at H; exact H
                        clear H
                        have H := H1
                        clear H1
                        by_cases c62 : t130 = 0
                        ·rw [if_pos c62] at H
                         have c62b0 : (t130 == 0) = true := beq_iff_eq.mpr c62
                         have c62b1 : (t130 != 0) = false := bne_eq_false_iff_eq.mpr c62
                         clear c62
                         by_cases c63 : t135 = 0
                         ·rw [if_pos c63] at H
                          have c63b0 : (t135 == 0) = true := beq_iff_eq.mpr c63
                          have c63b1 : (t135 != 0) = false := bne_eq_false_iff_eq.mpr c63
                          clear c63
                          by_cases c64 : t129 = t134
                          ·rw [if_pos c64] at H
                           have c64b0 : (t129 == t134) = true := beq_iff_eq.mpr c64
                           have c64b1 : (t129 != t134) = false := bne_eq_false_iff_eq.mpr c64
                           clear c64
                           have H' := Aside0.mk H
                           clear H
                           try go_wp2
                           have n0_ := Aside0.mk (Kd.S_drew HO_7.out)
                           have n1_ := Aside0.mk (Kd.R_drew HO_11.out)
                           have n2_ := Aside0.mk (Kd.S_drew HO_105000.out)
                           have n3_ := Aside0.mk (blk_drew BK101.out)
                           have n4_ := Aside0.mk (blk_drew BK104.out)
                           have n5_ := Aside0.mk (trivial : True)
                           have n6_ := Aside0.mk (below_drew1 HB.out)
                           clear HO_7
                           clear HO_11
                           clear HO_105000
                           clear BK101
                           clear BK104
                           clear HR116_0
                           clear HB
                           have HO_7 := n0_
                           have HO_11 := n1_
                           have HO_105000 := n2_
                           have BK101 := n3_
                           have BK104 := n4_
                           have HR116_0 := n5_
                           have HB := n6_
                           clear n0_ n1_ n2_ n3_ n4_ n5_ n6_
                           have p125 : 0 ≤ (x10_2 : Int) := of_decide_eq_true (by first | (with_reducible assumption) | assumption)
                           have q125 : x10_2 < (t111.length : Int) := of_decide_eq_true (by first | (with_reducible assumption) | assumption)
                           obtain ⟨ad125, A125_0, c125_0, e125, hx125_0, hl125_0, hi125_0⟩ := at_L12 (Kd.S_reads' HO_7.out).2.2 x10_2 p125 q125
                           obtain rfl : ad116 = ad125 := (by injection e125)
                           obtain ⟨ce125, hce125, hMe125, hcc125⟩ := Kd.S_get HO_7.out [] x10_2 p125 (by first | exact q125 | exact of_decide_eq_true (by first | (with_reducible assumption) | assumption) | (have e_ := (Kd.S_reads' HO_7.out).1; omega))
                           obtain ⟨ve125_0, rfl, ge125_0⟩ := hMe125
                           have hv125_0 := hcc125 0 _ rfl
                           rw [Nat.add_zero, show ((Kd.slice 3 (Kd.int .i64))).sz = 1 from rfl, Nat.mul_one] at hv125_0
                           replace hv125_0 := Option.some.inj (hv125_0.symm.trans hx125_0)
                           rw [hv125_0] at ge125_0
                           have HL125_0 := Aside0.mk (show Kd.R (Kd.int .i64) 3 _ _ _ _ (rd_L12 t111 x10_2) from ge125_0)
                           clear hv125_0 ge125_0
                           clear hcc125 hce125
                           have HR125_0 := Aside0.mk hi125_0
                           have HC125_0 := Aside0.mk hl125_0
                           clear hi125_0 hl125_0
                           replace p125 := eq_true p125
                           replace q125 := eq_true q125
                           refine start_ (n := 13) (S := fun w' => w'.cell? ⟨gb104, 0, none⟩ = some (.slice Ao26 t105.length co26) ∧ w'.cell? ⟨gb104, 1, none⟩ = some (.slice A0_1 l0_1.length c0_1) ∧ w'.cell? (ad116.add (x10_2).toNat) = some (.slice A125_0 (rd_L12 t111 x10_2).length c125_0)) (ds := []) #[false, false, false, false, false, false, false, false, false, false, false, false, false] (by kernel_rfl) rfl rfl ⟨(blk_cell BK104.out 0).trans rfl, (blk_cell BK104.out 1).trans rfl, hx125_0⟩ (fun hHeld => ?_); refine with_tabW trishawlaw02_JamSame.tab29 trishawlaw02_JamSame.bits29 (fun HT_ HW_ => ?_)
                           generalize wr.drew = w65 at HO_7 HO_11 HO_105000 BK101 BK104 HR116_0 HB HL125_0 HR125_0 hx125_0 hHeld ⊢
                           refine pure_ (i := 1) (N := some 116) (v := ?_) (a' := ?_) #[false, true, false, false, false, false, false, false, false, false, false, false, false] rfl rfl (any_of HT_.out (by kernel_rfl)) (fun _ _ _ h => h) (Or.inl ⟨by rfl, ?_⟩) ?_ ?_
                           rotate_left
                           ·intro w'
                            go_simp
                            with_reducible rfl
                           rotate_left
                           ·simp only [Act.put, List.setIfInBounds_toArray, List.set_cons_zero, List.set_cons_succ, i64_w, i32_w]
                            rfl
                           refine pure_ (i := 2) (N := some 117) (v := ?_) (a' := ?_) #[false, true, true, false, false, false, false, false, false, false, false, false, false] rfl rfl (any_of HT_.out (by kernel_rfl)) (fun _ _ _ h => h) (Or.inl ⟨by rfl, ?_⟩) ?_ ?_
                           rotate_left
                           ·intro w'
                            go_simp
                            with_reducible rfl
                           rotate_left
                           ·simp only [Act.put, List.setIfInBounds_toArray, List.set_cons_zero, List.set_cons_succ, i64_w, i32_w]
                            rfl
                           refine pure_ (i := 3) (N := some 118) (v := ?_) (a' := ?_) #[false, true, true, true, false, false, false, false, false, false, false, false, false] rfl rfl (any_of HT_.out (by kernel_rfl)) (fun _ _ _ h => h) (Or.inl ⟨by rfl, ?_⟩) ?_ ?_
                           rotate_left
                           ·intro w'
                            go_simp
                            with_reducible rfl
                           rotate_left
                           ·simp only [Act.put, List.setIfInBounds_toArray, List.set_cons_zero, List.set_cons_succ, i64_w, i32_w]
                            rfl
                           refine take_ (i := 0) (N := some 115) (v := ?_) (a' := ?_) #[true, true, true, true, false, false, false, false, false, false, false, false, false] rfl rfl (take_ofW HT_.out HW_.out (by kernel_rfl)) (fun _ _ _ h => h) (Or.inl ⟨by rfl, ?_⟩) hHeld ?_ ?_
                           rotate_left
                           ·rintro w' ⟨s0, s1, s2⟩
                            go_simp
                            with_reducible rfl
                           rotate_left
                           ·simp only [Act.put, List.setIfInBounds_toArray, List.set_cons_zero, List.set_cons_succ, i64_w, i32_w]
                            rfl
                           refine take_ (i := 4) (N := some 119) (v := ?_) (a' := ?_) #[true, true, true, true, true, false, false, false, false, false, false, false, false] rfl rfl (take_ofW HT_.out HW_.out (by kernel_rfl)) (fun _ _ _ h => h) (Or.inl ⟨by rfl, ?_⟩) hHeld ?_ ?_
                           rotate_left
                           ·rintro w' ⟨s0, s1, s2⟩
                            go_simp
                            with_reducible rfl
                           rotate_left
                           ·simp only [Act.put, List.setIfInBounds_toArray, List.set_cons_zero, List.set_cons_succ, i64_w, i32_w]
                            rfl
                           refine one_ (i := 5) (N := some 120) #[true, true, true, true, true, true, false, false, false, false, false, false, false] rfl rfl (one_of HT_.out (by kernel_rfl)) (by decide) (fun K hK => ?_)
                           refine goes_ Try.func28 (by kernel_rfl) rfl #[.agg #[.slice Ao26 t105.length co26, .slice A0_1 l0_1.length c0_1], .slice A125_0 (rd_L12 t111 x10_2).length c125_0] (by rfl) rfl rfl (by (try simp only [List.map_toArray, List.map_cons, List.map_nil]); first | done | rfl | (simp only [List.length_drop, List.length_take]; rfl)) ?_
                           with_reducible refine (jam_Costs.calls k4 _ _ t105 _ _ l0_1 _ _ (rd_L12 t111 x10_2) t126 t129 t130 _ ?side1 ?side2 ?side3 ?side4 ?side5 ?side6 A59.out).mono ?_
                           (case side1 => repeat (first | exact (fx_C (Kd.S_reads' HO_105000.out).2.2 HB.out) | (with_reducible refine Kd.C_alloc ?_ _) | (with_reducible refine Kd.C_drewN ?_ _) | (with_reducible refine Kd.C_drew ?_)))
                           (case side2 => exact (Kd.S_reads' HO_105000.out).2.1)
                           (case side3 => repeat (first | exact (Kd.C_below HR0_1.out HB.out) | (with_reducible refine Kd.C_alloc ?_ _) | (with_reducible refine Kd.C_drewN ?_ _) | (with_reducible refine Kd.C_drew ?_)))
                           (case side4 => exact HC0_1.out)
                           (case side5 => repeat (first | exact (by repeat (first | (with_reducible exact HR125_0.out) | (with_reducible refine Kd.C_alloc ?_ _) | (with_reducible refine Kd.C_drewN ?_ _) | (with_reducible refine Kd.C_drew ?_) | exact HR125_0.out)) | (with_reducible refine Kd.C_alloc ?_ _) | (with_reducible refine Kd.C_drewN ?_ _) | (with_reducible refine Kd.C_drew ?_)))
                           (case side6 => exact HC125_0.out)
                           rintro e w66 ⟨v127, rfl, ho0, hb⟩
                           have HS2_ := (hb.cell (World.block_lt_of_cell? _ _ (hHeld.2.2))).trans (hHeld.2.2)
                           refine ⟨_, rfl, ?_⟩
                           have n0_ := Aside0.mk (Kd.S_elder' (by (with_reducible repeat (first | apply Kd.S_alloc | apply Kd.S_drewN | apply Kd.S_drew)); exact HO_7.out) (Kd.R_base ho0) hb)
                           have n1_ := Aside0.mk (Kd.R_elder' (by (with_reducible repeat (first | apply Kd.R_alloc | apply Kd.R_drewN | apply Kd.R_drew)); exact HO_11.out) (Kd.R_base ho0) hb)
                           have n2_ := Aside0.mk (Kd.S_elder' (by (with_reducible repeat (first | apply Kd.S_alloc | apply Kd.S_drewN | apply Kd.S_drew)); exact HO_105000.out) (Kd.R_base ho0) hb)
                           have n3_ := Aside0.mk (Kd.R_elder' (by (with_reducible repeat (first | apply Kd.R_alloc | apply Kd.R_drewN | apply Kd.R_drew)); exact HL125_0.out) (Kd.R_base ho0) hb)
                           have n4_ := Aside0.mk (Kd.R_lower (Kd.R_new' (Kd.R_new' ho0 (Kd.R_lt (by (with_reducible repeat (first | apply Kd.R_alloc | apply Kd.R_drewN | apply Kd.R_drew)); exact HO_11.out))) (Kd.R_lt (by (with_reducible repeat (first | apply Kd.R_alloc | apply Kd.R_drewN | apply Kd.R_drew)); exact HL125_0.out))) (below_size (by repeat (first | (with_reducible first | exact HB.out | apply below_alloc | apply pw_below_drewN | apply below_drew1 | refine below_set ?_ GE101.out | refine below_set ?_ GE104.out) | exact HB.out))))
                           have n5_ := Aside0.mk (blk_below (g := gb101) (o := .cells #[.slice A0_0 l0_0.length c0_0, .slice A0_1 l0_1.length c0_1] 41 (0, 0)) (by (with_reducible repeat (first | refine blk_drewN ?_ _ | refine blk_drew ?_ | refine blk_alloc ?_ _)); exact BK101.out) hb)
                           have n6_ := Aside0.mk (blk_below (g := gb104) (o := .cells #[.slice Ao26 t105.length co26, .slice A0_1 l0_1.length c0_1] 41 (0, 0)) (by (with_reducible repeat (first | refine blk_drewN ?_ _ | refine blk_drew ?_ | refine blk_alloc ?_ _)); exact BK104.out) hb)
                           have n7_ := Aside0.mk (trivial : True)
                           have n8_ := Aside0.mk (Kd.C_below (by repeat (first | (with_reducible exact HR125_0.out) | (with_reducible refine Kd.C_alloc ?_ _) | (with_reducible refine Kd.C_drewN ?_ _) | (with_reducible refine Kd.C_drew ?_) | exact HR125_0.out)) hb)
                           have n9_ := Aside0.mk (below_step (by repeat (first | (with_reducible first | exact HB.out | apply below_alloc | apply pw_below_drewN | apply below_drew1 | refine below_set ?_ GE101.out | refine below_set ?_ GE104.out) | exact HB.out)) hb)
                           clear HO_7
                           clear HO_11
                           clear HO_105000
                           clear HL125_0
                           clear BK101
                           clear BK104
                           clear HR116_0
                           clear HR125_0
                           clear HB
                           have HO_7 := n0_
                           have HO_11 := n1_
                           have HO_105000 := n2_
                           have HL125_0 := n3_
                           have HO128 := n4_
                           have BK101 := n5_
                           have BK104 := n6_
                           have HR116_0 := n7_
                           have HR125_0 := n8_
                           have HB := n9_
                           clear n0_ n1_ n2_ n3_ n4_ n5_ n6_ n7_ n8_ n9_
                           (try clear hb)
                           (try clear hb2)
                           (try clear hk)
                           (try clear hi)
                           (try clear ho0)
                           refine hK.out _ _ ⟨(blk_cell BK104.out 0).trans rfl, (blk_cell BK104.out 1).trans rfl, HS2_⟩ (fun hHeld => ?_)
                           clear hK K
                           refine norm_ (a' := ?_) ?_ ?_
                           rotate_left
                           ·show Act.put _ (some 120) _ = _
                            simp only [Act.put, List.setIfInBounds_toArray, List.set_cons_zero, List.set_cons_succ, i64_w, i32_w]
                            rfl
                           refine pure_ (i := 6) (N := some 114) (v := ?_) (a' := ?_) #[true, true, true, true, true, true, true, false, false, false, false, false, false] rfl rfl (any_of HT_.out (by kernel_rfl)) (fun _ _ _ h => h) (Or.inl ⟨by rfl, ?_⟩) ?_ ?_
                           rotate_left
                           ·intro w'
                            go_simp
                            with_reducible rfl
                           rotate_left
                           ·simp only [Act.put, List.setIfInBounds_toArray, List.set_cons_zero, List.set_cons_succ, i64_w, i32_w]
                            rfl
                           refine pure_ (i := 7) (N := some 121) (v := ?_) (a' := ?_) #[true, true, true, true, true, true, true, true, false, false, false, false, false] rfl rfl (any_of HT_.out (by kernel_rfl)) (fun _ _ _ h => h) (Or.inl ⟨by rfl, ?_⟩) ?_ ?_
                           rotate_left
                           ·intro w'
                            go_simp
                            with_reducible rfl
                           rotate_left
                           ·simp only [Act.put, List.setIfInBounds_toArray, List.set_cons_zero, List.set_cons_succ, i64_w, i32_w]
                            rfl
                           refine pure_ (i := 8) (N := some 122) (v := ?_) (a' := ?_) #[true, true, true, true, true, true, true, true, true, false, false, false, false] rfl rfl (any_of HT_.out (by kernel_rfl)) (fun _ _ _ h => h) (Or.inl ⟨by rfl, ?_⟩) ?_ ?_
                           rotate_left
                           ·intro w'
                            go_simp
                            with_reducible rfl
                           rotate_left
                           ·simp only [Act.put, List.setIfInBounds_toArray, List.set_cons_zero, List.set_cons_succ, i64_w, i32_w]
                            rfl
                           refine pure_ (i := 9) (N := some 123) (v := ?_) (a' := ?_) #[true, true, true, true, true, true, true, true, true, true, false, false, false] rfl rfl (any_of HT_.out (by kernel_rfl)) (fun _ _ _ h => h) (Or.inl ⟨by rfl, ?_⟩) ?_ ?_
                           rotate_left
                           ·intro w'
                            go_simp
                            with_reducible rfl
                           rotate_left
                           ·simp only [Act.put, List.setIfInBounds_toArray, List.set_cons_zero, List.set_cons_succ, i64_w, i32_w]
                            rfl
                           refine pure_ (i := 10) (N := some 15) (v := ?_) (a' := ?_) #[true, true, true, true, true, true, true, true, true, true, true, false, false] rfl rfl (any_of HT_.out (by kernel_rfl)) (fun _ _ _ h => h) (Or.inl ⟨by rfl, ?_⟩) ?_ ?_
                           rotate_left
                           ·intro w'
                            go_simp
                            with_reducible rfl
                           rotate_left
                           ·simp only [Act.put, List.setIfInBounds_toArray, List.set_cons_zero, List.set_cons_succ, i64_w, i32_w]
                            rfl
                           refine pure_ (i := 11) (N := some 16) (v := ?_) (a' := ?_) #[true, true, true, true, true, true, true, true, true, true, true, true, false] rfl rfl (any_of HT_.out (by kernel_rfl)) (fun _ _ _ h => h) (Or.inl ⟨by rfl, ?_⟩) ?_ ?_
                           rotate_left
                           ·intro w'
                            go_simp
                            with_reducible rfl
                           rotate_left
                           ·simp only [Act.put, List.setIfInBounds_toArray, List.set_cons_zero, List.set_cons_succ, i64_w, i32_w]
                            rfl
                           refine pure_ (i := 12) (N := some 17) (v := ?_) (a' := ?_) #[true, true, true, true, true, true, true, true, true, true, true, true, true] rfl rfl (any_of HT_.out (by kernel_rfl)) (fun _ _ _ h => h) (Or.inl ⟨by rfl, ?_⟩) ?_ ?_
                           rotate_left
                           ·intro w'
                            go_simp
                            with_reducible rfl
                           rotate_left
                           ·simp only [Act.put, List.setIfInBounds_toArray, List.set_cons_zero, List.set_cons_succ, i64_w, i32_w]
                            rfl
                           refine done_ (done_of HT_.out (by kernel_rfl)) ?_
                           have hnb67 := NB104_101.out
                           have hnc67 := NB101_104.out
                           have hcz68_0 : w66.cell? ⟨gb104, 0, none⟩ = some (.slice Ao26 t105.length co26) := (blk_cell BK104.out 0).trans rfl
                           have hcz68_1 : w66.cell? ⟨gb104, 1, none⟩ = some (.slice A0_1 l0_1.length c0_1) := (blk_cell BK104.out 1).trans rfl
                           have hfz68_0 := blk_frozen BK104.out 0
                           have hfz68_1 := blk_frozen BK104.out 1
                           obtain ⟨Ao69, co69, eo69⟩ := Kd.R_slice HO_11.out
                           subst eo69
                           try go_wp2_with (first | ((with_reducible refine gate_callee (f := 28) rfl ?_); refine goesL_ (some 127) rfl rfl Try.func28 (by kernel_rfl) rfl #[.agg #[.slice Ao26 t105.length co26, .slice A0_1 l0_1.length c0_1], .slice Ao69 x11_3.length co69] rfl (by (try simp only [List.map_toArray, List.map_cons, List.map_nil]); first | done | rfl | (simp only [List.length_drop, List.length_take]; rfl)) ?_; (with_reducible refine (jam_Costs.calls k4 _ _ t105 _ _ l0_1 _ _ x11_3 t131 t134 t135 _ ?side1 ?side2 ?side3 ?side4 ?side5 ?side6 A60.out).mono ?_); (case side1 => repeat (first | exact (fx_C (Kd.S_reads' HO_105000.out).2.2 HB.out) | (with_reducible refine Kd.C_alloc ?_ _) | (with_reducible refine Kd.C_drewN ?_ _) | (with_reducible refine Kd.C_drew ?_))); (case side2 => exact (Kd.S_reads' HO_105000.out).2.1); (case side3 => repeat (first | exact (Kd.C_below HR0_1.out HB.out) | (with_reducible refine Kd.C_alloc ?_ _) | (with_reducible refine Kd.C_drewN ?_ _) | (with_reducible refine Kd.C_drew ?_))); (case side4 => exact HC0_1.out); (case side5 => repeat (first | exact (Kd.R_reads' HO_11.out).2.2 | (with_reducible refine Kd.C_alloc ?_ _) | (with_reducible refine Kd.C_drewN ?_ _) | (with_reducible refine Kd.C_drew ?_))); (case side6 => exact (Kd.R_reads' HO_11.out).2.1); rintro e w70 ⟨v132, rfl, ho0, hb⟩; refine ⟨_, rfl, ?_⟩; have n0_ := Aside0.mk (Kd.S_elder' (by (with_reducible repeat (first | apply Kd.S_alloc | apply Kd.S_drewN | apply Kd.S_drew)); exact HO_7.out) (Kd.R_base ho0) hb); have n1_ := Aside0.mk (Kd.R_elder' (by (with_reducible repeat (first | apply Kd.R_alloc | apply Kd.R_drewN | apply Kd.R_drew)); exact HO_11.out) (Kd.R_base ho0) hb); have n2_ := Aside0.mk (Kd.S_elder' (by (with_reducible repeat (first | apply Kd.S_alloc | apply Kd.S_drewN | apply Kd.S_drew)); exact HO_105000.out) (Kd.R_base ho0) hb); have n3_ := Aside0.mk (Kd.R_elder' (by (with_reducible repeat (first | apply Kd.R_alloc | apply Kd.R_drewN | apply Kd.R_drew)); exact HL125_0.out) (Kd.R_base ho0) hb); have n4_ := Aside0.mk (Kd.R_elder' (by (with_reducible repeat (first | apply Kd.R_alloc | apply Kd.R_drewN | apply Kd.R_drew)); exact HO128.out) (Kd.R_base ho0) hb); have n5_ := Aside0.mk (Kd.R_lower (Kd.R_new' (Kd.R_new' (Kd.R_new' ho0 (Kd.R_lt (by (with_reducible repeat (first | apply Kd.R_alloc | apply Kd.R_drewN | apply Kd.R_drew)); exact HO_11.out))) (Kd.R_lt (by (with_reducible repeat (first | apply Kd.R_alloc | apply Kd.R_drewN | apply Kd.R_drew)); exact HL125_0.out))) (Kd.R_lt (by (with_reducible repeat (first | apply Kd.R_alloc | apply Kd.R_drewN | apply Kd.R_drew)); exact HO128.out))) (below_size (by repeat (first | (with_reducible first | exact HB.out | apply below_alloc | apply pw_below_drewN | apply below_drew1 | refine below_set ?_ GE101.out | refine below_set ?_ GE104.out) | exact HB.out)))); have n6_ := Aside0.mk (blk_below (g := gb101) (o := .cells #[.slice A0_0 l0_0.length c0_0, .slice A0_1 l0_1.length c0_1] 41 (0, 0)) (by (with_reducible repeat (first | refine blk_drewN ?_ _ | refine blk_drew ?_ | refine blk_alloc ?_ _)); exact BK101.out) hb); have n7_ := Aside0.mk (blk_below (g := gb104) (o := .cells #[.slice Ao26 t105.length co26, .slice A0_1 l0_1.length c0_1] 41 (0, 0)) (by (with_reducible repeat (first | refine blk_drewN ?_ _ | refine blk_drew ?_ | refine blk_alloc ?_ _)); exact BK104.out) hb); have n8_ := Aside0.mk (trivial : True); have n9_ := Aside0.mk (Kd.C_below (by repeat (first | (with_reducible exact HR125_0.out) | (with_reducible refine Kd.C_alloc ?_ _) | (with_reducible refine Kd.C_drewN ?_ _) | (with_reducible refine Kd.C_drew ?_) | exact HR125_0.out)) hb); have n10_ := Aside0.mk (below_step (by repeat (first | (with_reducible first | exact HB.out | apply below_alloc | apply pw_below_drewN | apply below_drew1 | refine below_set ?_ GE101.out | refine below_set ?_ GE104.out) | exact HB.out)) hb); clear HO_7; clear HO_11; clear HO_105000; clear HL125_0; clear HO128; clear BK101; clear BK104; clear HR116_0; clear HR125_0; clear HB; have HO_7 := n0_; have HO_11 := n1_; have HO_105000 := n2_; have HL125_0 := n3_; have HO128 := n4_; have HO133 := n5_; have BK101 := n6_; have BK104 := n7_; have HR116_0 := n8_; have HR125_0 := n9_; have HB := n10_; clear n0_ n1_ n2_ n3_ n4_ n5_ n6_ n7_ n8_ n9_ n10_; (try clear hb); (try clear hb2); (try clear hk); (try clear hi); (try clear ho0)))
                           go_roundg k4
                           case measure => have := HJ2.out; have := HK2.out; have := HK3.out; have := HK4.out; omega
                           case rel => exact ⟨(wrap64 (x10_2 + 1)), (by first | rfl | (simp; done) | (simp [*]; done)), H', ⟨by have := HJ2.out; have := HK2.out; have := HK3.out; have := HK4.out; omega⟩, ⟨by (with_reducible repeat (first | apply Kd.S_alloc | apply Kd.S_drewN | apply Kd.S_drew)); exact Kd.S_mono HO_7.out (fun _ hk => hk.1.1.2)⟩, ⟨by (with_reducible repeat (first | apply Kd.S_alloc | apply Kd.S_drewN | apply Kd.S_drew)); exact Kd.S_mono HO_105000.out (fun _ hk => hk.1.1.1)⟩, ⟨by (with_reducible repeat (first | refine blk_drewN ?_ _ | refine blk_drew ?_ | refine blk_alloc ?_ _)); exact BK101.out⟩, ⟨by (with_reducible repeat (first | refine blk_drewN ?_ _ | refine blk_drew ?_ | refine blk_alloc ?_ _)); exact BK104.out⟩, ⟨by repeat (first | (with_reducible first | exact HB.out | apply below_alloc | apply pw_below_drewN | apply below_drew1 | refine below_set ?_ GE101.out | refine below_set ?_ GE104.out) | exact HB.out)⟩⟩
                          ·rw [if_neg c64] at H
                           have c64b0 : (t129 == t134) = false := beq_eq_false_iff_ne.mpr c64
                           have c64b1 : (t129 != t134) = true := bne_iff_ne.mpr c64
                           exact absurd ((Option.some.inj H).trans HRT.out) (by decide)
                         ·rw [if_neg c63] at H
                          have c63b0 : (t135 == 0) = false := beq_eq_false_iff_ne.mpr c63
                          have c63b1 : (t135 != 0) = true := bne_iff_ne.mpr c63
                          exact absurd ((Option.some.inj H).trans HRT.out) (by decide)
                        ·rw [if_neg c62] at H
                         have c62b0 : (t130 == 0) = false := beq_eq_false_iff_ne.mpr c62
                         have c62b1 : (t130 != 0) = true := bne_iff_ne.mpr c62
                         exact absurd ((Option.some.inj H).trans HRT.out) (by decide)
                       ·replace c61 := Bool.eq_false_iff.mpr c61
                        subst c61
                        have H1 : (some false) = some r := by rw [if_neg (show ¬ (false = true) by decide)] at H; exact H
                        exact absurd ((Option.some.inj H1).trans HRT.out) (by decide)
                      ·rw [if_neg c58] at H
                       exact absurd H (by simp)
                     ·rw [if_neg c57] at H
                      exact absurd H (by simp)
              ·rw [if_neg c36] at H
               exact absurd H (by simp)
             ·rw [if_neg c35] at H
              exact absurd H (by simp)
            ·rw [if_neg c34] at H
             have c34b0 : (((rd_L12 t111 x10_2).length : Int) == (l0_0.length : Int)) = false := beq_eq_false_iff_ne.mpr c34
             have c34b1 : (((rd_L12 t111 x10_2).length : Int) != (l0_0.length : Int)) = true := bne_iff_ne.mpr c34
             have c34b2 : ((rd_L12 t111 x10_2).length == l0_0.length) = false := by first | simpa using c34 | (simp at c34 ⊢; omega)
             exact absurd ((Option.some.inj H).trans HRT.out) (by decide)
           ·rw [if_neg c33] at H
            exact absurd H (by simp)
          ·rw [if_neg c32] at H
           have c32b0 : decide (x10_2 < (t111.length : Int)) = false := decide_eq_false c32
           clear c32
           replace H := Option.bind_eq_some_iff.mp H
           obtain ⟨t115, A960, H⟩ := H
           replace H : (some t115) = some r := H
           have A96 := Aside0.mk A960
           clear A960
           obtain rfl := Option.some.inj H
           obtain ⟨Ao97, co97, eo97⟩ := Kd.S_slice HO_7.out
           subst eo97
           go_wp2_with (first | ((with_reducible refine gate_callee (f := 16) rfl ?_); refine goesL_ (some 146) rfl rfl Try.func16 (by kernel_rfl) rfl #[] rfl (by (try simp only [List.map_toArray, List.map_cons, List.map_nil]); first | done | rfl | (simp only [List.length_drop, List.length_take]; rfl)) ?_; (with_reducible refine (trishawlaw02_alive.calls k2  t115 _ A96.out).mono ?_); rintro e w98 ⟨rfl, hb⟩; refine ⟨_, rfl, ?_⟩; have n0_ := Aside0.mk (Kd.S_below (by (with_reducible repeat (first | apply Kd.S_alloc | apply Kd.S_drewN | apply Kd.S_drew)); exact HO_7.out) hb); have n1_ := Aside0.mk (Kd.S_below (by (with_reducible repeat (first | apply Kd.S_alloc | apply Kd.S_drewN | apply Kd.S_drew)); exact HO_105000.out) hb); have n2_ := Aside0.mk (blk_below (g := gb101) (o := .cells #[.slice A0_0 l0_0.length c0_0, .slice A0_1 l0_1.length c0_1] 41 (0, 0)) (by (with_reducible repeat (first | refine blk_drewN ?_ _ | refine blk_drew ?_ | refine blk_alloc ?_ _)); exact BK101.out) hb); have n3_ := Aside0.mk (blk_below (g := gb104) (o := .cells #[.slice Ao26 t105.length co26, .slice A0_1 l0_1.length c0_1] 41 (0, 0)) (by (with_reducible repeat (first | refine blk_drewN ?_ _ | refine blk_drew ?_ | refine blk_alloc ?_ _)); exact BK104.out) hb); have n4_ := Aside0.mk (below_step (by repeat (first | (with_reducible first | exact HB.out | apply below_alloc | apply pw_below_drewN | apply below_drew1 | refine below_set ?_ GE101.out | refine below_set ?_ GE104.out) | exact HB.out)) hb); clear HO_7; clear HO_105000; clear BK101; clear BK104; clear HB; have HO_7 := n0_; have HO_105000 := n1_; have BK101 := n2_; have BK104 := n3_; have HB := n4_; clear n0_ n1_ n2_ n3_ n4_; (try clear hb); (try clear hb2); (try clear hk); (try clear hi)))
           go_ret
           exact ⟨by first | rfl | (simp [errW_none, errW_some] <;> rfl) | (simp [*, errW_none, errW_some] <;> rfl), by repeat (first | (with_reducible first | exact HB.out | apply below_alloc | apply pw_below_drewN | apply below_drew1 | refine below_set ?_ GE101.out | refine below_set ?_ GE104.out) | exact HB.out)⟩
       ·rw [if_neg c19] at H
        have c19b0 : (t114 == 0) = false := beq_eq_false_iff_ne.mpr c19
        have c19b1 : (t114 != 0) = true := bne_iff_ne.mpr c19
        exact absurd ((Option.some.inj H).trans HRT.out) (by decide)
      ·replace c17 := Bool.eq_false_iff.mpr c17
       subst c17
       have H1 : ((trishawlaw02_alive.f kj2).bind fun t110 => (some t110)) = some r := by rw [if_neg (show ¬ (false = true) by decide)] at H; exact H
       clear H
       have H := H1
       clear H1
       replace H := Option.bind_eq_some_iff.mp H
       obtain ⟨t110, A1100, H⟩ := H
       replace H : (some t110) = some r := H
       have A110 := Aside0.mk A1100
       clear A1100
       obtain rfl := Option.some.inj H
       go_wp2_with (first | ((with_reducible refine gate_callee (f := 25) rfl ?_); refine goesL_ (some 51) rfl rfl Try.func25 (by kernel_rfl) rfl #[.agg #[.slice Ao26 t105.length co26, .slice A0_1 l0_1.length c0_1]] rfl (by (try simp only [List.map_toArray, List.map_cons, List.map_nil]); first | done | rfl | (simp only [List.length_drop, List.length_take]; rfl)) ?_; (with_reducible refine (trishawref02_IsGame.calls kj2 _ _ t105 _ _ l0_1 false _ ?side1 ?side2 ?side3 ?side4 A16.out).mono ?_); (case side1 => repeat (first | exact (fx_C (Kd.S_reads' HO107.out).2.2 HB.out) | (with_reducible refine Kd.C_alloc ?_ _) | (with_reducible refine Kd.C_drewN ?_ _) | (with_reducible refine Kd.C_drew ?_))); (case side2 => exact (Kd.S_reads' HO107.out).2.1); (case side3 => exact Kd.C_below HR0_1.out (by repeat (first | (with_reducible first | exact HB.out | apply below_alloc | apply pw_below_drewN | apply below_drew1 | refine below_set ?_ GE101.out | refine below_set ?_ GE104.out) | exact HB.out))); (case side4 => exact HC0_1.out); rintro e w119 ⟨rfl, hb⟩; refine ⟨_, rfl, ?_⟩; have n0_ := Aside0.mk (Kd.S_below (by (with_reducible repeat (first | apply Kd.S_alloc | apply Kd.S_drewN | apply Kd.S_drew)); exact HO107.out) hb); have n1_ := Aside0.mk (blk_below (g := gb101) (o := .cells #[.slice A0_0 l0_0.length c0_0, .slice A0_1 l0_1.length c0_1] 41 (0, 0)) (by (with_reducible repeat (first | refine blk_drewN ?_ _ | refine blk_drew ?_ | refine blk_alloc ?_ _)); exact BK101.out) hb); have n2_ := Aside0.mk (blk_below (g := gb104) (o := .cells #[.slice Ao26 t105.length co26, .slice A0_1 l0_1.length c0_1] 41 (0, 0)) (by (with_reducible repeat (first | refine blk_drewN ?_ _ | refine blk_drew ?_ | refine blk_alloc ?_ _)); exact BK104.out) hb); have n3_ := Aside0.mk (below_step (by repeat (first | (with_reducible first | exact HB.out | apply below_alloc | apply pw_below_drewN | apply below_drew1 | refine below_set ?_ GE101.out | refine below_set ?_ GE104.out) | exact HB.out)) hb); clear HO107; clear BK101; clear BK104; clear HB; have HO107 := n0_; have BK101 := n1_; have BK104 := n2_; have HB := n3_; clear n0_ n1_ n2_ n3_; (try clear hb); (try clear hb2); (try clear hk); (try clear hi)) | ((with_reducible refine gate_callee (f := 16) rfl ?_); refine goesL_ (some 53) rfl rfl Try.func16 (by kernel_rfl) rfl #[] rfl (by (try simp only [List.map_toArray, List.map_cons, List.map_nil]); first | done | rfl | (simp only [List.length_drop, List.length_take]; rfl)) ?_; (with_reducible refine (trishawlaw02_alive.calls kj2  t110 _ A110.out).mono ?_); rintro e w120 ⟨rfl, hb⟩; refine ⟨_, rfl, ?_⟩; have n0_ := Aside0.mk (Kd.S_below (by (with_reducible repeat (first | apply Kd.S_alloc | apply Kd.S_drewN | apply Kd.S_drew)); exact HO107.out) hb); have n1_ := Aside0.mk (blk_below (g := gb101) (o := .cells #[.slice A0_0 l0_0.length c0_0, .slice A0_1 l0_1.length c0_1] 41 (0, 0)) (by (with_reducible repeat (first | refine blk_drewN ?_ _ | refine blk_drew ?_ | refine blk_alloc ?_ _)); exact BK101.out) hb); have n2_ := Aside0.mk (blk_below (g := gb104) (o := .cells #[.slice Ao26 t105.length co26, .slice A0_1 l0_1.length c0_1] 41 (0, 0)) (by (with_reducible repeat (first | refine blk_drewN ?_ _ | refine blk_drew ?_ | refine blk_alloc ?_ _)); exact BK104.out) hb); have n3_ := Aside0.mk (below_step (by repeat (first | (with_reducible first | exact HB.out | apply below_alloc | apply pw_below_drewN | apply below_drew1 | refine below_set ?_ GE101.out | refine below_set ?_ GE104.out) | exact HB.out)) hb); clear HO107; clear BK101; clear BK104; clear HB; have HO107 := n0_; have BK101 := n1_; have BK104 := n2_; have HB := n3_; clear n0_ n1_ n2_ n3_; (try clear hb); (try clear hb2); (try clear hk); (try clear hi)))
       go_ret
       exact ⟨by first | rfl | (simp [errW_none, errW_some] <;> rfl) | (simp [*, errW_none, errW_some] <;> rfl), by repeat (first | (with_reducible first | exact HB.out | apply below_alloc | apply pw_below_drewN | apply below_drew1 | refine below_set ?_ GE101.out | refine below_set ?_ GE104.out) | exact HB.out)⟩

     | succ k2x =>
      have p0 : (0 : Int) ≤ (i : Int) := Int.natCast_nonneg _
      have q0 : (i : Int) < (l0_0.length : Int) := by have := HKi.out; omega
      have cX : decide ((i : Int) < (l0_0.length : Int)) = true := decide_eq_true q0
      have cX2 : decide (i < l0_0.length) = true := decide_eq_true (by omega)
      obtain ⟨ad, Ar, cr, e, hx, hcr, hC⟩ := at_L12 HR0_0.out (0 : Int) (Int.le_refl _) (by omega)
      subst e
      obtain ⟨row, hrow⟩ : ∃ l, rd_L12 l0_0 0 = l := ⟨_, rfl⟩
      rw [hrow] at hx hcr hC
      have hO := HO107.out
      rw [hrow] at hO
      clear HO107
      have HO107 := Aside0.mk hO
      have HROW := Aside0.mk hrow
      clear hO hrow
      have hx0 : w.cell? ad = some (.slice Ar row.length cr) := by have h_ := hx; rwa [show ad.add (0 : Int).toNat = ad from by cases ad; rfl] at h_
      have HX := Aside0.mk hx0
      have HCR := Aside0.mk hcr
      have HCC := Aside0.mk hC
      clear hx hx0 hcr hC p0
      replace q0 := eq_true q0
      have qz : ((0 : Int) < (l0_0.length : Int)) = True := eq_true (by have := HKi.out; omega)
      have qy : (0 < l0_0.length) = True := eq_true (by have := HKi.out; omega)
      go_upto_region 7 with (fail)
      have n0_ := Aside0.mk (Kd.R_drew HO107.out)
      have n1_ := Aside0.mk (blk_drew BK101.out)
      have n2_ := Aside0.mk (blk_drew BK104.out)
      have n3_ := Aside0.mk (below_drew1 HB.out)
      clear hwgb101_0
      clear hwgb101_1
      clear hwgb104_0
      clear hwgb104_1
      clear hwfgb101_0
      clear hwfgb104_0
      clear HO107 BK101 BK104 HB
      have HO107 := n0_
      have BK101 := n1_
      have BK104 := n2_
      have HB := n3_
      clear n0_ n1_ n2_ n3_
      refine start_ (n := 10) (S := fun w' => w'.cell? ⟨gb104, 0, none⟩ = some (.slice Ao26 i co26) ∧ w'.cell? ⟨gb101, 0, none⟩ = some (.slice (some ad) l0_0.length c0_0) ∧ w'.cell? ad = some (.slice Ar row.length cr)) (ds := [9]) #[false, false, false, false, false, false, false, false, false, false] (by kernel_rfl) rfl rfl ⟨(blk_cell BK104.out 0).trans rfl, (blk_cell BK101.out 0).trans rfl, (HB.out.cell (World.block_lt_of_cell? w _ HX.out)).trans HX.out⟩ (fun hHeld => ?_); refine with_tabW trishawlaw02_JamSame.tab7 trishawlaw02_JamSame.bits7 (fun HT_ HW_ => ?_)
      generalize wr.drew = wd at HO107 BK101 BK104 HB hHeld ⊢
      refine pure_ (i := 0) (N := some 41) (v := ?_) (a' := ?_) #[true, false, false, false, false, false, false, false, false, false] rfl rfl (any_of HT_.out (by kernel_rfl)) (fun _ _ _ h => h) (Or.inl ⟨by rfl, ?_⟩) ?_ ?_
      rotate_left
      ·intro w'
       go_simp
       first | with_reducible rfl | rfl
      rotate_left
      ·simp only [Act.put, List.setIfInBounds_toArray, List.set_cons_zero, List.set_cons_succ, i64_w, i32_w]
       rfl
      refine take_ (i := 1) (N := some 42) (v := ?_) (a' := ?_) #[true, true, false, false, false, false, false, false, false, false] rfl rfl (take_ofW HT_.out HW_.out (by kernel_rfl)) (fun _ _ _ h => h) (Or.inl ⟨by rfl, ?_⟩) hHeld ?_ ?_
      rotate_left
      ·rintro w' ⟨s0, s1, s2⟩
       go_simp
       first | with_reducible rfl | rfl
      rotate_left
      ·simp only [Act.put, List.setIfInBounds_toArray, List.set_cons_zero, List.set_cons_succ, i64_w, i32_w]
       rfl
      refine pure_ (i := 2) (N := some 43) (v := ?_) (a' := ?_) #[true, true, true, false, false, false, false, false, false, false] rfl rfl (any_of HT_.out (by kernel_rfl)) (fun _ _ _ h => h) (Or.inl ⟨by rfl, ?_⟩) ?_ ?_
      rotate_left
      ·intro w'
       go_simp
       first | with_reducible rfl | rfl
      rotate_left
      ·simp only [Act.put, List.setIfInBounds_toArray, List.set_cons_zero, List.set_cons_succ, i64_w, i32_w]
       rfl
      refine take_ (i := 3) (N := some 44) (v := ?_) (a' := ?_) #[true, true, true, true, false, false, false, false, false, false] rfl rfl (take_ofW HT_.out HW_.out (by kernel_rfl)) (fun _ _ _ h => h) (Or.inl ⟨by rfl, ?_⟩) hHeld ?_ ?_
      rotate_left
      ·rintro w' ⟨s0, s1, s2⟩
       go_simp
       first | with_reducible rfl | rfl
      rotate_left
      ·simp only [Act.put, List.setIfInBounds_toArray, List.set_cons_zero, List.set_cons_succ, i64_w, i32_w]
       rfl
      refine pure_ (i := 4) (N := some 45) (v := ?_) (a' := ?_) #[true, true, true, true, true, false, false, false, false, false] rfl rfl (any_of HT_.out (by kernel_rfl)) (fun _ _ _ h => h) (Or.inl ⟨by rfl, ?_⟩) ?_ ?_
      rotate_left
      ·intro w'
       go_simp
       first | with_reducible rfl | rfl
      rotate_left
      ·simp only [Act.put, List.setIfInBounds_toArray, List.set_cons_zero, List.set_cons_succ, i64_w, i32_w]
       rfl
      refine take_ (i := 5) (N := some 46) (v := ?_) (a' := ?_) #[true, true, true, true, true, true, false, false, false, false] rfl rfl (take_ofW HT_.out HW_.out (by kernel_rfl)) (fun _ _ _ h => h) (Or.inl ⟨by rfl, ?_⟩) hHeld ?_ ?_
      rotate_left
      ·rintro w' ⟨s0, s1, s2⟩
       go_simp
       first | with_reducible rfl | rfl
      rotate_left
      ·simp only [Act.put, List.setIfInBounds_toArray, List.set_cons_zero, List.set_cons_succ, i64_w, i32_w]
       rfl
      refine one_ (i := 6) (N := some 47) #[true, true, true, true, true, true, true, false, false, false] rfl rfl (one_of HT_.out (by kernel_rfl)) (by decide) (fun K hK => ?_)
      refine value_ (w1 := ?_) (v := ?_) (by rfl) rfl ?_ ?_
      rotate_left 2
      ·go_simp
       constructor
       ·rfl
       ·rfl
      refine hK.out _ _ ⟨(blk_cell (blk_alloc BK104.out _) 0).trans rfl, (blk_cell (blk_alloc BK101.out _) 0).trans rfl, ((below_alloc HB.out _).cell (World.block_lt_of_cell? w _ HX.out)).trans HX.out⟩ (fun hHeld => ?_)
      clear hK K
      refine norm_ (a' := ?_) ?_ ?_
      rotate_left
      ·show Act.put _ (some 47) _ = _
       simp only [Act.put, List.setIfInBounds_toArray, List.set_cons_zero, List.set_cons_succ, i64_w, i32_w]
       rfl
      refine one_ (i := 7) (N := some 48) #[true, true, true, true, true, true, true, true, false, false] rfl rfl (one_of HT_.out (by kernel_rfl)) (by decide) (fun K hK => ?_)
      refine Kd.R_append_step (FX w) (w0 := w) w.heap.size (by rfl) (.tmp 42) (.tmp 47) 39 24 (.slice none 0 0) 24 rfl Try.underlying39 info24 rfl (show 0 < (FX w).sz from Nat.one_pos) (by omega) (.slice Ao26 i co26) (List.replicate i row) row [.slice Ar row.length cr] (fun _ => True) (fun _ => False) rfl rfl ?aP (fun _ hk => hk.elim) ?aF ?aO ?aB ?aS ?aL ?_
      (case aP => exact ⟨Ar, cr, rfl, HCR.out, HCC.out⟩)
      (case aB => exact HB.out)
      (case aF => exact (fun _ _ => trivial))
      (case aO => exact HO107.out)
      (case aS => exact HB.out.size)
      (case aL => rw [List.length_replicate]; have := HN.out; have := HKi.out; omega)
      intro v9 w9 ho hb hg hat
      rw [← List.replicate_succ'] at ho
      obtain ⟨Ao, co, eo⟩ := Kd.R_slice ho
      rw [List.length_replicate] at eo
      subst eo
      have h1_ := blk_grown BK101.out hg (Kd.R_ne HO107.out BK101.out (by decide))
      have h4_ := blk_grown BK104.out hg (Kd.R_ne HO107.out BK104.out (by decide))
      clear HO107 BK101 BK104 HB
      have HO107 := Aside0.mk ho
      have BK101 := Aside0.mk h1_
      have BK104 := Aside0.mk h4_
      have HB := Aside0.mk hb
      clear ho hb hg hat h1_ h4_
      refine hK.out _ _ ⟨(blk_cell BK104.out 0).trans rfl, (blk_cell BK101.out 0).trans rfl, (HB.out.cell (World.block_lt_of_cell? w _ HX.out)).trans HX.out⟩ (fun hHeld => ?_)
      clear hK K
      refine norm_ (a' := ?_) ?_ ?_
      rotate_left
      ·show Act.put _ (some 48) _ = _
       simp only [Act.put, List.setIfInBounds_toArray, List.set_cons_zero, List.set_cons_succ, i64_w, i32_w]
       rfl
      refine pure_ (i := 8) (N := some 49) (v := ?_) (a' := ?_) #[true, true, true, true, true, true, true, true, true, false] rfl rfl (any_of HT_.out (by kernel_rfl)) (fun _ _ _ h => h) (Or.inl ⟨by rfl, ?_⟩) ?_ ?_
      rotate_left
      ·intro w'
       go_simp
       first | with_reducible rfl | rfl
      rotate_left
      ·simp only [Act.put, List.setIfInBounds_toArray, List.set_cons_zero, List.set_cons_succ, i64_w, i32_w]
       rfl
      refine last_ (i := 9) (N := none) #[true, true, true, true, true, true, true, true, true, true] rfl rfl (one_of HT_.out (by kernel_rfl)) (by decide) (fun K hK => ?_)
      have hs := (blk_cell BK104.out 0).trans rfl
      have hfs := blk_frozen BK104.out 0
      refine skip_ (w1 := ?_) (by rfl) rfl ?_ ?_
      rotate_left
      ·go_simp
       rfl
      refine hK.out _ _ ?_
      clear hK K
      refine done_ (done_of HT_.out (by kernel_rfl)) ?_
      try go_wp2
      go_roundg k2x
      case measure => have := HKi.out; omega
      case rel => exact ⟨i + 1, Ao, co, (by rw [wrap_i1 (by have := HN.out; have := HKi.out; omega)]), ⟨by have := HKi.out; omega⟩, ⟨by rw [HROW.out]; exact Kd.R_mono (Kd.R_far (p := ⟨gb104, 0, none⟩) (Kd.R_types HO107.out BK104.out (fun q hq => by have h_ : q ∈ [24] := hq; simp at h_; omega)) (fun _ hk => hk.2) _) (fun _ _ => trivial)⟩, ⟨blk_far BK101.out NB101_104.out _⟩, ⟨blk_put (cs := #[.slice Ao26 i co26, .slice A0_1 l0_1.length c0_1]) BK104.out 0 _ rfl⟩, ⟨below_set HB.out GE104.out⟩⟩
end Go.Proofs.Ytjgbdicbdlollaa.B
namespace Go.Proofs.Ytjgbdicbdlollaa.B
open Go.RowKit Go.ChangeShapes Go.WideShapes Go.Deep Go.Proofs.YtjgbdicbdlollaaW.PrintWords Go.Proofs.YtjgbdicbdlollaaW.PrintLast Go.Proofs.YtjgbdicbdlollaaW.PrintMore
def okI (x : Int) : Prop := (Lit.int .i64 x).wf = true
def okRow (l : List Int) : Prop := l.length ≤ maxLen ∧ ∀ x ∈ l, okI x
def okRows (l : List (List Int)) : Prop := l.length ≤ maxLen ∧ ∀ x ∈ l, okRow x
section
variable {H : Type} {enc : TypeId × Value → H} {w : World} {spare : Nat → Bool} {held : Bool}
theorem open_list {α : Type} [Inhabited α] (d : Kd α) (ok : α → Prop) {t e : TypeId} (ht : Try.prog.underlying t = some (.slice e)) (hsz : Try.prog.cellsOf e = d.sz)
    (ho : ∀ (fuel : Nat) (cs : List Value) (x : DataW H × List MemPlace), DataW.trod enc Try.prog w 0 spare held fuel e cs = some x → ∃ s, d.K w s cs ∧ ok s)
    {fuel : Nat} {cs : List Value} {x : DataW H × List MemPlace} (h : DataW.trod enc Try.prog w 0 spare held fuel t cs = some x) :
    ∃ (A : Option Addr) (l : List α) (c : Nat), cs = [.slice A l.length c] ∧ l.length ≤ c ∧ c ≤ maxLen ∧ Kd.C d w A l.length l ∧ ∀ x ∈ l, ok x := by
  rcases open_slice ht h with ⟨rfl, _⟩ | ⟨x, l, c, m, n, D, Pl, rfl, _, hl, hm, hmm, _, hi⟩
  · exact ⟨none, [], 0, rfl, Nat.le_refl _, by simp, Kd.C_nil d w, by simp⟩
  · have hlm : l ≤ m := by rw [hmm]; split <;> omega
    rw [hsz] at hi
    have hex : ∀ i : Nat, ∃ s : α, i < l → ok s ∧ ∃ cs', d.K w s cs' ∧ w.cells? 0 (x.add (i * d.sz)) d.sz = some cs' := by
      intro i
      by_cases h : i < l
      · obtain ⟨cs', hc, ht⟩ := hi i (by omega)
        obtain ⟨s, hs, hk⟩ := ho _ _ _ ht
        exact ⟨s, fun _ => ⟨hk, cs', hs, hc⟩⟩
      · exact ⟨default, fun h' => absurd h' h⟩
    obtain ⟨f, hf⟩ := Classical.axiomOfChoice hex
    have hll : ((List.range l).map f).length = l := by simp
    refine ⟨some x, (List.range l).map f, c, by rw [hll], by rw [hll]; exact hl, hm, ⟨rfl, by rw [hll]; simp only [maxLen] at hm; omega, fun _ => ⟨x, rfl, fun j p hj => ?_⟩⟩, fun y hy => ?_⟩
    · have hjl : j < l := by have := (List.getElem?_eq_some_iff.1 hj).1; rw [hll] at this; exact this
      rw [List.getElem?_map, List.getElem?_range hjl] at hj
      injection hj with hj
      subst hj
      obtain ⟨hs, cs', hK, hc⟩ := hf j hjl
      obtain ⟨_, hlen, hat⟩ := World.cells?_some hc
      refine ⟨cs', hlen, hK, fun i u hu => ?_⟩
      have hi2 : i < d.sz := by have := (List.getElem?_eq_some_iff.1 hu).1; omega
      rw [← Go.Deep.add_add, hat i hi2, hu]
    · obtain ⟨j, hj, rfl⟩ := List.mem_map.1 hy
      exact (hf j (List.mem_range.1 hj)).1
theorem open_int3 (fuel : Nat) (cs : List Value) (x : DataW H × List MemPlace) (h : DataW.trod enc Try.prog w 0 spare held fuel 3 cs = some x) : ∃ s : Int, (Kd.int .i64).K w s cs ∧ okI s := by
  obtain ⟨n0, e0, _, w0⟩ := DataW.trod_int Try.underlying3 h
  subst e0
  exact ⟨n0, rfl, w0⟩
theorem open_row24 {fuel : Nat} {cs : List Value} {x : DataW H × List MemPlace} (h : DataW.trod enc Try.prog w 0 spare held fuel 24 cs = some x) :
    ∃ (A : Option Addr) (l : List Int) (c : Nat), cs = [.slice A l.length c] ∧ l.length ≤ c ∧ c ≤ maxLen ∧ Kd.C (Kd.int .i64) w A l.length l ∧ ∀ x ∈ l, okI x :=
  open_list (Kd.int .i64) okI Try.underlying24 (by kernel_rfl) open_int3 h
theorem open_rows39 {fuel : Nat} {cs : List Value} {x : DataW H × List MemPlace} (h : DataW.trod enc Try.prog w 0 spare held fuel 39 cs = some x) :
    ∃ (A : Option Addr) (l : List (List Int)) (c : Nat), cs = [.slice A l.length c] ∧ l.length ≤ c ∧ c ≤ maxLen ∧ Kd.C (Kd.slice 3 (Kd.int .i64)) w A l.length l ∧ ∀ x ∈ l, okRow x := by
  refine open_list (Kd.slice 3 (Kd.int .i64)) okRow Try.underlying39 (by kernel_rfl) (fun fuel cs x h => ?_) h
  obtain ⟨A, l, c, rfl, h1, h2, h3, h4⟩ := open_row24 h
  exact ⟨l, ⟨A, c, rfl, h1, h3⟩, Nat.le_trans h1 h2, h4⟩
set_option maxRecDepth 100000 in
theorem open_game {r : Reach} {b0 : Nat} {v : Value} {d : DataW H} {ps : List MemPlace} (hval : Value.okWide Try.prog w r b0 41 v) (h : DataW.Trod enc Try.prog w 0 spare held 41 v d ps) :
    ∃ (A : Option Addr) (l : List (List Int)) (c : Nat) (A' : Option Addr) (l' : List (List Int)) (c' : Nat), v = .agg #[.slice A l.length c, .slice A' l'.length c'] ∧
      (l.length ≤ c ∧ c ≤ maxLen ∧ Kd.C (Kd.slice 3 (Kd.int .i64)) w A l.length l ∧ ∀ x ∈ l, okRow x) ∧ (l'.length ≤ c' ∧ c' ≤ maxLen ∧ Kd.C (Kd.slice 3 (Kd.int .i64)) w A' l'.length l' ∧ ∀ x ∈ l', okRow x) := by
  obtain ⟨fuel, hf⟩ := h
  obtain ⟨cs, rfl, _⟩ := okWide_struct Try.underlying41 hval
  obtain ⟨xs, n, _, _, hlen, hxl, hg⟩ := DataW.trod_struct Try.underlying41 hf
  have h41 : Try.prog.cellsOf 41 = 2 := by kernel_rfl
  have h39 : Try.prog.cellsOf 39 = 1 := by kernel_rfl
  have hcs : ∃ u0 u1, cs = #[u0, u1] := by
    have hl2 : cs.toList.length = 2 := by rw [h41] at hlen; exact hlen
    match hc : cs.toList, hl2 with
    | [u0, u1], _ => exact ⟨u0, u1, by rw [← hc]⟩
  obtain ⟨u0, u1, rfl⟩ := hcs
  have hsz : xs.length = 2 := hxl
  match xs, hsz with
  | [y0, y1], _ =>
    have g0 : DataW.trod enc Try.prog w 0 spare held n 39 (([u0, u1].drop 0).take (Try.prog.cellsOf 39)) = some y0 := hg 0 _ rfl
    have g1 : DataW.trod enc Try.prog w 0 spare held n 39 (([u0, u1].drop 1).take (Try.prog.cellsOf 39)) = some y1 := hg 1 _ rfl
    rw [h39] at g0 g1
    obtain ⟨A, l, c, e0, k0⟩ := open_rows39 g0
    obtain ⟨A', l', c', e1, k1⟩ := open_rows39 g1
    obtain rfl : u0 = .slice A l.length c := by injection e0
    obtain rfl : u1 = .slice A' l'.length c' := by injection e1
    exact ⟨A, l, c, A', l', c', rfl, k0, k1⟩
end
end Go.Proofs.Ytjgbdicbdlollaa.B
namespace Go.Proofs.Ytjgbdicbdlollaa.B
open Go.RowKit Go.Proofs.YtjgbdicbdlollaaW.PrintWords Go.Proofs.YtjgbdicbdlollaaW.PrintLast Go.Proofs.YtjgbdicbdlollaaW.PrintMore
def trishawlaw02_JamSame.Pure : Prop := ∀ (l0_0 l0_1 : List (List Int)) (a1 : Int), okRows l0_0 → okRows l0_1 → (Lit.int .u8 a1).wf = true → ∃ k, trishawlaw02_JamSame.f k l0_0 l0_1 a1 = some true
theorem trishawlaw02_JamSame.walk (P : trishawlaw02_JamSame.Pure) (w : World) (A0_0 : Option Addr) (c0_0 : Nat) (l0_0 : List (List Int)) (hr0_0 : Kd.C (Kd.slice 3 (Kd.int .i64)) w A0_0 l0_0.length l0_0) (hc0_0 : l0_0.length ≤ c0_0) (A0_1 : Option Addr) (c0_1 : Nat) (l0_1 : List (List Int)) (hr0_1 : Kd.C (Kd.slice 3 (Kd.int .i64)) w A0_1 l0_1.length l0_1) (hc0_1 : l0_1.length ≤ c0_1) (a1 : Int) (h0_0 : okRows l0_0) (h1_0 : okRows l0_1) (h2_0 : (Lit.int .u8 a1).wf = true) :
    Calls Try.prog 11 #[.agg #[.slice A0_0 l0_0.length c0_0, .slice A0_1 l0_1.length c0_1], .int .u8 a1] w fun e w' => e = .returned (.bool true) ∧ Below w.heap.size w w' := by
  obtain ⟨k, h⟩ := P l0_0 l0_1 a1 h0_0 h1_0 h2_0
  refine (trishawlaw02_JamSame.calls k A0_0 c0_0 l0_0 A0_1 c0_1 l0_1 a1 true w hr0_0 hc0_0 hr0_1 hc0_1 h rfl).mono ?_
  rintro e w' ⟨rfl, hd⟩
  exact ⟨rfl, hd⟩
end Go.Proofs.Ytjgbdicbdlollaa.B
namespace Go.Proofs.Ytjgbdicbdlollaa.B
open Go.RowKit Go.Proofs.YtjgbdicbdlollaaW.PrintWords Go.Proofs.YtjgbdicbdlollaaW.PrintLast Go.Proofs.YtjgbdicbdlollaaW.PrintMore
set_option linter.unusedVariables false
set_option linter.unusedSimpArgs false
def sm (x : Int) : Prop := -4611686018427387904 ≤ x ∧ x ≤ 4611686018427387904
theorem wsm {x : Int} (h : sm x) : wrap64 x = x := by unfold sm at h; unfold wrap64; omega
theorem wrapN (i : Nat) (h : i < 1000000) : wrap64 ((i : Int) + 1) = ((i + 1 : Nat) : Int) := by unfold wrap64; omega
theorem rd_mem2 (l : List Int) (i : Nat) (h : i < l.length) : rd l (i : Int) ∈ l := by
  have : rd l (i : Int) = l[i] := by simp [rd, List.getD, List.getElem?_eq_getElem h]
  rw [this]; exact List.getElem_mem h
end Go.Proofs.Ytjgbdicbdlollaa.B
namespace Go.Proofs.Ytjgbdicbdlollaa.B
open Go.RowKit Go.Sort Go.Proofs.YtjgbdicbdlollaaW.PrintWords Go.Proofs.YtjgbdicbdlollaaW.PrintLast Go.Proofs.YtjgbdicbdlollaaW.PrintMore
set_option linter.unusedVariables false
set_option linter.unusedSimpArgs false
def okL (x : S36) : Prop := 0 ≤ x.f0 ∧ x.f0 ≤ 10 ∧ 1 ≤ x.f1 ∧ x.f1 ≤ 10
def sumL (f : S36 → Int) : List S36 → Int
  | [] => 0
  | x :: l => f x + sumL f l
theorem sumL_le {f g : S36 → Int} : ∀ {l : List S36}, (∀ x ∈ l, f x ≤ g x) → sumL f l ≤ sumL g l
  | [], _ => Int.le_refl _
  | x :: l, h => by
    have h1 := h x (by simp)
    have h2 := sumL_le (l := l) fun y hy => h y (by simp [hy])
    simp only [sumL]; omega
theorem sumL_const (c : Int) : ∀ l : List S36, sumL (fun _ => c) l = c * l.length
  | [] => by simp [sumL]
  | x :: l => by simp only [sumL, sumL_const c l, List.length_cons, Int.natCast_add, Int.mul_add]; simp; omega
theorem sumL_pos {f : S36 → Int} {l : List S36} (h : ∀ x ∈ l, 0 ≤ f x) : 0 ≤ sumL f l := by
  have := sumL_le (f := fun _ => 0) (g := f) h
  rw [sumL_const] at this; simpa using this
/-- A time num/den is good: its own set of lanes gives it. -/
def Good (w : S36 → Int) (p : Int) (l : List S36) (n d : Int) : Prop :=
  0 < d ∧ n = p + sumL (fun x => if x.f0 * d < n then x.f0 * w x else 0) l ∧ d = sumL (fun x => if x.f0 * d < n then w x else 0) l
end Go.Proofs.Ytjgbdicbdlollaa.B
namespace Go.Proofs.Ytjgbdicbdlollaa.B
open Go.RowKit Go.Sort Go.Proofs.YtjgbdicbdlollaaW.PrintWords Go.Proofs.YtjgbdicbdlollaaW.PrintLast Go.Proofs.YtjgbdicbdlollaaW.PrintMore
set_option linter.unusedVariables false
set_option linter.unusedSimpArgs false
theorem mulb {x y X Y : Int} (hx : 0 ≤ x) (hX : x ≤ X) (hy : 0 ≤ y) (hY : y ≤ Y) : 0 ≤ x * y ∧ x * y ≤ X * Y :=
  ⟨Int.mul_nonneg hx hy, Int.mul_le_mul hX hY hy (by omega)⟩
def wv (p t : Int) (x : S36) : Int := Int.tdiv p (x.f1 * t)
theorem Good.b {p t : Int} {l : List S36} {n d : Int} (hp : 0 < p) (hp2 : p ≤ 160000) (hl : l.length ≤ 4) (hw : ∀ x ∈ l, okL x ∧ 0 < wv p t x ∧ wv p t x ≤ p) (g : Good (wv p t) p l n d) : 0 ≤ n ∧ n ≤ 6560000 ∧ 0 < d ∧ d ≤ 640000 := by
  obtain ⟨h0, h1, h2⟩ := g
  have a1 : sumL (fun x => if x.f0 * d < n then x.f0 * wv p t x else 0) l ≤ sumL (fun _ => 1600000) l := sumL_le fun x hx => by
    obtain ⟨h3, h4, h5⟩ := hw x hx
    unfold okL at h3
    have := mulb (x := x.f0) (y := wv p t x) (X := 10) (Y := 160000) (by omega) (by omega) (by omega) (by omega)
    split <;> omega
  have a0 : 0 ≤ sumL (fun x => if x.f0 * d < n then x.f0 * wv p t x else 0) l := sumL_pos fun x hx => by
    obtain ⟨h3, h4, h5⟩ := hw x hx
    unfold okL at h3
    have := mulb (x := x.f0) (y := wv p t x) (X := 10) (Y := 160000) (by omega) (by omega) (by omega) (by omega)
    split <;> omega
  have a2 : sumL (fun x => if x.f0 * d < n then wv p t x else 0) l ≤ sumL (fun _ => 160000) l := sumL_le fun x hx => by
    obtain ⟨h3, h4, h5⟩ := hw x hx
    split <;> omega
  rw [sumL_const] at a1 a2
  omega
end Go.Proofs.Ytjgbdicbdlollaa.B
namespace Go.Proofs.Ytjgbdicbdlollaa.B
open Go.RowKit Go.Sort Go.Proofs.YtjgbdicbdlollaaW.PrintWords Go.Proofs.YtjgbdicbdlollaaW.PrintLast Go.Proofs.YtjgbdicbdlollaaW.PrintMore
theorem alive_ev : Ev (fun k => trishawlaw02_alive.f k) true := ⟨60, fun k hk => alive_from k hk⟩
theorem alive_ev2 : Ev (fun k => (trishawlaw02_alive.f k).bind fun t => some t) true := Ev.bind alive_ev (Ev.now true)
end Go.Proofs.Ytjgbdicbdlollaa.B
namespace Go.Proofs.Ytjgbdicbdlollaa.B
open Go.RowKit Go.Sort Go.Proofs.YtjgbdicbdlollaaW.PrintWords Go.Proofs.YtjgbdicbdlollaaW.PrintLast Go.Proofs.YtjgbdicbdlollaaW.PrintMore
set_option linter.unusedVariables false
set_option linter.unusedSimpArgs false
theorem rdN (l : List Int) (i : Nat) (h : i < l.length) : rd l (i : Int) = l[i] := by simp [rd, List.getD, List.getElem?_eq_getElem h]
theorem rdL (l : List (List Int)) (i : Nat) (h : i < l.length) : rd_L12 l (i : Int) = l[i] := by simp [rd_L12, List.getD, List.getElem?_eq_getElem h]
theorem rdL_mem (l : List (List Int)) (i : Nat) (h : i < l.length) : rd_L12 l (i : Int) ∈ l := by rw [rdL l i h]; exact List.getElem_mem h
theorem rdZ_mem (l : List Int) (z : Int) (h0 : 0 ≤ z) (h : z < l.length) : rd l z ∈ l := by
  obtain ⟨i, rfl⟩ : ∃ i : Nat, z = i := ⟨z.toNat, by omega⟩
  exact rd_mem2 l i (by omega)
def mapR (m : Nat) (f : Nat → Int) : List Int := (List.range m).map f
theorem mapR_len (m : Nat) (f : Nat → Int) : (mapR m f).length = m := by simp [mapR]
theorem mapR_rd {m : Nat} {f : Nat → Int} {k : Nat} (h : k < m) : rd (mapR m f) (k : Int) = f k := by
  rw [rdN _ k (by rw [mapR_len]; exact h)]; simp [mapR]
theorem mapR_set (m : Nat) (f : Nat → Int) (k : Nat) (v : Int) : (mapR m f).set k v = mapR m (fun j => if j = k then v else f j) := by
  apply List.ext_getElem
  · simp [mapR]
  · intro i h1 h2
    simp only [mapR, List.getElem_set, List.getElem_map, List.getElem_range]
    by_cases h : k = i
    · subst h; simp
    · rw [if_neg h, if_neg (fun e => h e.symm)]
theorem mapR_congr {m : Nat} {f g : Nat → Int} (h : ∀ k, k < m → f k = g k) : mapR m f = mapR m g :=
  List.map_congr_left fun k hk => h k (List.mem_range.1 hk)
theorem mapR_succ (m : Nat) (f : Nat → Int) : mapR m f ++ [f m] = mapR (m + 1) f := by simp [mapR, List.range_succ]
theorem mapR_zero (m : Nat) : List.replicate m (0 : Int) = mapR m (fun _ => 0) := by
  apply List.ext_getElem
  · simp [mapR]
  · intro i h1 h2; simp [mapR]
structure GameOk (R T : List (List Int)) : Prop where
  r1 : 1 ≤ R.length
  r5 : R.length ≤ 5
  t1 : 1 ≤ T.length
  t8 : T.length ≤ 8
  row : ∀ l ∈ R, 1 ≤ l.length ∧ l.length ≤ 5 ∧ ∀ x ∈ l, 1 ≤ x ∧ x < 2 ^ T.length
  toll : ∀ t ∈ T, t.length = R.length ∧ ∀ x ∈ t, 0 ≤ x ∧ x ≤ 1000
structure ChOk (R : List (List Int)) (c : List Int) : Prop where
  len : c.length = R.length
  ok : ∀ i : Nat, i < R.length → 0 ≤ rd c (i : Int) ∧ rd c (i : Int) < ((rd_L12 R (i : Int)).length : Int)
/-- The route that driver i takes. -/
def rte (R : List (List Int)) (c : List Int) (i : Nat) : Int := rd (rd_L12 R (i : Int)) (rd c (i : Int))
theorem rte_b {R T : List (List Int)} {c : List Int} (g : GameOk R T) (h : ChOk R c) {i : Nat} (hi : i < R.length) : 1 ≤ rte R c i ∧ rte R c i < 2 ^ T.length := by
  have h1 := h.ok i hi
  exact (g.row _ (rdL_mem R i hi)).2.2 _ (rdZ_mem _ _ h1.1 h1.2)
theorem pow_b {m : Nat} (h : m ≤ 8) : (2 : Int) ^ m ≤ 256 := by
  have : (2 : Nat) ^ m ≤ 2 ^ 8 := Nat.pow_le_pow_right (by omega) h
  have e : ((2 ^ m : Nat) : Int) = (2 : Int) ^ m := by simp
  omega
/-- A street of a route. -/
def bk (x : Int) (k : Nat) : Int := x / 2 ^ k % 2
theorem fin_bk : ∀ s : Fin 256, ∀ a : Fin 8, Go.bits .and .i64 (shr .i64 ((s.val : Nat) : Int) ((a.val : Nat) : Int)) 1 = bk ((s.val : Nat) : Int) a.val ∧ Int.tmod (shr .i64 ((s.val : Nat) : Int) ((a.val : Nat) : Int)) 2 = bk ((s.val : Nat) : Int) a.val ∧ (bk ((s.val : Nat) : Int) a.val = 0 ∨ bk ((s.val : Nat) : Int) a.val = 1) := by decide +kernel
theorem bk_and {x : Int} {k : Nat} (h0 : 0 ≤ x) (h1 : x < 256) (hk : k < 8) : Go.bits .and .i64 (shr .i64 x (k : Int)) 1 = bk x k ∧ Int.tmod (shr .i64 x (k : Int)) 2 = bk x k ∧ (bk x k = 0 ∨ bk x k = 1) := by
  have := fin_bk ⟨x.toNat, by omega⟩ ⟨k, hk⟩
  simp only at this
  rw [show ((x.toNat : Nat) : Int) = x by omega] at this
  exact this
/-- How many of the first m drivers are on a street. -/
def uF (R : List (List Int)) (c : List Int) : Nat → Nat → Int
  | 0, _ => 0
  | m + 1, k => uF R c m k + bk (rte R c m) k
theorem uF_b {R T : List (List Int)} {c : List Int} (g : GameOk R T) (h : ChOk R c) {k : Nat} (hk : k < T.length) : ∀ m, m ≤ R.length → 0 ≤ uF R c m k ∧ uF R c m k ≤ m
  | 0, _ => by simp [uF]
  | m + 1, hm => by
    have ih := uF_b g h hk m (by omega)
    have hb := rte_b g h (i := m) (by omega)
    have hp := pow_b g.t8
    have h8 := g.t8
    have := (bk_and (x := rte R c m) (k := k) (by omega) (by omega) (by omega)).2.2
    simp only [uF]
    omega
theorem uF_pos {R T : List (List Int)} {c : List Int} (g : GameOk R T) (h : ChOk R c) {k : Nat} (hk : k < T.length) {i : Nat} : ∀ m, m ≤ R.length → i < m → bk (rte R c i) k = 1 → 1 ≤ uF R c m k
  | m + 1, hm, hi, hb1 => by
    have ih := uF_b g h hk m (by omega)
    have hb := rte_b g h (i := m) (by omega)
    have hp := pow_b g.t8
    have h8 := g.t8
    have := (bk_and (x := rte R c m) (k := k) (by omega) (by omega) (by omega)).2.2
    simp only [uF]
    by_cases he : i = m
    · subst he; omega
    · have := uF_pos g h hk m (by omega) (by omega) hb1
      omega
section
variable {R T : List (List Int)} {c : List Int} (g : GameOk R T) (h : ChOk R c)
include g h
/-- One driver's streets. -/
theorem users_l1 (U : List Unit) (P : Int → Int → Option Int) (r : List Int) (i : Nat) (hi : i < R.length) (hn : Ev (fun k => jam_game_users.l0 k (mapR T.length (uF R c (i + 1))) c (c.length : Int) ((i + 1 : Nat) : Int) R U P) r) : ∀ (m k : Nat), k + m = T.length →
    Ev (fun n => jam_game_users.l1 n (mapR T.length (fun j => if j < k then uF R c (i + 1) j else uF R c i j)) (i : Int) (rd c (i : Int)) c (c.length : Int) (i : Int) (T.length : Int) (k : Int) R U P) r
  | 0, k, hk => by
    have h5 := g.r5
    rw [mapR_congr (g := uF R c (i + 1)) (fun j hj => if_pos (by omega))]
    refine Ev.step (fun n => ?_) hn
    simp only [jam_game_users.l1]
    rw [if_neg (by omega), wrapN i (by omega)]
  | m + 1, k, hk => by
    have h5 := g.r5
    have h8 := g.t8
    have hb := rte_b g h hi
    have hp := pow_b g.t8
    have hc := h.ok i hi
    have hbk := bk_and (x := rte R c i) (k := k) (by omega) (by omega) (by omega)
    have hu := uF_b g h (k := k) (by omega) i (by omega)
    have ih := users_l1 U P r i hi hn m (k + 1) (by omega)
    refine Ev.step (fun n => ?_) ih
    simp only [jam_game_users.l1]
    rw [if_pos (by omega), if_pos (by omega), if_pos (by rw [mapR_len]; omega), if_pos (by omega), if_pos (by omega), if_pos (by omega), if_pos hc.2, mapR_rd (by omega), if_neg (by omega), show rd (rd_L12 R (i : Int)) (rd c (i : Int)) = rte R c i from rfl, hbk.1, wsm (by unfold sm; omega), wrapN k (by omega), Int.toNat_natCast, mapR_set]
    congr 1
    refine mapR_congr fun j hj => ?_
    by_cases h1 : j = k
    · subst h1; rw [if_pos rfl, if_pos (by omega)]; rfl
    · rw [if_neg h1]
      by_cases h2 : j < k
      · rw [if_pos h2, if_pos (by omega)]
      · rw [if_neg h2, if_neg (by omega)]
theorem users_l0 (U : List Unit) (P : Int → Int → Option Int) : ∀ (m i : Nat), i + m = R.length → Ev (fun n => jam_game_users.l0 n (mapR T.length (uF R c i)) c (c.length : Int) (i : Int) R U P) (mapR T.length (uF R c R.length))
  | 0, i, hi => by
    have e : i = R.length := by omega
    subst e
    have hl := h.len
    refine Ev.step (f := fun _ => some (mapR T.length (uF R c R.length))) (fun n => ?_) (Ev.now _)
    simp only [jam_game_users.l0]
    rw [if_neg (by omega)]
  | m + 1, i, hi => by
    have hl := h.len
    have h5 := g.r5
    have ih := users_l0 U P m (i + 1) (by omega)
    have hin := users_l1 g h U P _ i (by omega) ih T.length 0 (by omega)
    rw [mapR_congr (g := uF R c i) (fun j hj => if_neg (by omega))] at hin
    refine Ev.step (fun n => ?_) hin
    simp only [jam_game_users.l0]
    rw [if_pos (by omega), if_pos (by omega), if_pos (by omega), mapR_len]
    rfl
theorem users_ev (P : Int → Int → Option Int) : Ev (fun n => jam_game_users.f n R (unitsOf T) P c) (mapR T.length (uF R c R.length)) := by
  have h8 := g.t8
  have := users_l0 g h (unitsOf T) P R.length 0 (by omega)
  rw [show mapR T.length (uF R c 0) = List.replicate T.length (0 : Int) from (mapR_zero _).symm] at this
  refine Ev.congr (fun n => ?_) this
  have e : (unitsOf T).length = T.length := by simp [unitsOf]
  unfold jam_game_users.f
  rw [e, if_pos (Int.natCast_nonneg _), Int.toNat_natCast, if_pos (by omega)]
  rfl
/-- What a driver pays on streets k .. k + m - 1. -/
def payS (R T : List (List Int)) (c : List Int) (i : Nat) : Nat → Nat → Int
  | 0, _ => 0
  | m + 1, k => (if bk (rte R c i) k = 1 then rd (rd_L12 T (k : Int)) (uF R c R.length k - 1) else 0) + payS R T c i m (k + 1)
def cst (R T : List (List Int)) (c : List Int) (i : Nat) : Int := payS R T c i T.length 0
def totF (R T : List (List Int)) (c : List Int) : Nat → Int
  | 0 => 0
  | m + 1 => totF R T c m + cst R T c m
theorem pay_b {k i : Nat} (hk : k < T.length) (hi : i < R.length) (hb : bk (rte R c i) k = 1) : payF T (k : Int) (uF R c R.length k) = some (rd (rd_L12 T (k : Int)) (uF R c R.length k - 1)) ∧ 0 ≤ rd (rd_L12 T (k : Int)) (uF R c R.length k - 1) ∧ rd (rd_L12 T (k : Int)) (uF R c R.length k - 1) ≤ 1000 := by
  have h1 := uF_pos g h hk R.length (Nat.le_refl _) hi hb
  have h2 := uF_b g h hk R.length (Nat.le_refl _)
  have h3 := g.toll _ (rdL_mem T k hk)
  refine ⟨?_, h3.2 _ (rdZ_mem _ _ (by omega) (by omega))⟩
  unfold payF
  rw [if_pos (by omega), if_pos (by omega), if_pos (by omega), if_pos (by omega)]
theorem payS_b {i : Nat} (hi : i < R.length) : ∀ (m k : Nat), k + m = T.length → 0 ≤ payS R T c i m k ∧ payS R T c i m k ≤ 1000 * m
  | 0, _, _ => by simp [payS]
  | m + 1, k, hk => by
    have ih := payS_b hi m (k + 1) (by omega)
    simp only [payS]
    split
    · rename_i hb
      have := (pay_b g h (k := k) (by omega) hi hb).2
      omega
    · omega
theorem cst_b {i : Nat} (hi : i < R.length) : 0 ≤ cst R T c i ∧ cst R T c i ≤ 8000 := by
  have := payS_b g h hi T.length 0 (by omega)
  have h8 := g.t8
  unfold cst
  omega
theorem totF_b : ∀ m, m ≤ R.length → 0 ≤ totF R T c m ∧ totF R T c m ≤ 8000 * m
  | 0, _ => by simp [totF]
  | m + 1, hm => by
    have ih := totF_b m (by omega)
    have := cst_b g h (i := m) (by omega)
    simp only [totF]
    omega
theorem costs_l1 (U : List Unit) (r : List Int × Int) (i : Nat) (hi : i < R.length) (x7 : List Int) (x8 : Int) (h7 : x7.length = i)
    (hn : Ev (fun n => jam_game_costs.l0 n (mapR T.length (uF R c R.length)) (x7 ++ [cst R T c i]) (wrap64 (x8 + cst R T c i)) c (c.length : Int) ((i + 1 : Nat) : Int) R U (payF T)) r) : ∀ (m k : Nat) (a : Int), k + m = T.length → 0 ≤ a → a ≤ 1000 * k → a + payS R T c i m k = cst R T c i →
    Ev (fun n => jam_game_costs.l1 n (mapR T.length (uF R c R.length)) x7 x8 (i : Int) (rd c (i : Int)) a c (c.length : Int) (i : Int) (mapR T.length (uF R c R.length)) (T.length : Int) (k : Int) R U (payF T)) r
  | 0, k, a, hk, a0, a1, ha => by
    have h5 := g.r5
    have e : a = cst R T c i := by simp only [payS] at ha; omega
    subst e
    refine Ev.step (fun n => ?_) hn
    simp only [jam_game_costs.l1]
    rw [if_neg (by omega), if_pos (by omega), wrapN i (by omega)]
  | m + 1, k, a, hk, a0, a1, ha => by
    have h5 := g.r5
    have h8 := g.t8
    have hb := rte_b g h hi
    have hp := pow_b g.t8
    have hc := h.ok i hi
    have hbk := bk_and (x := rte R c i) (k := k) (by omega) (by omega) (by omega)
    simp only [payS] at ha
    by_cases hb1 : bk (rte R c i) k = 1
    · rw [if_pos hb1] at ha
      have hpay := pay_b g h (k := k) (by omega) hi hb1
      have ih := costs_l1 U r i hi x7 x8 h7 hn m (k + 1) (a + rd (rd_L12 T (k : Int)) (uF R c R.length k - 1)) (by omega) (by omega) (by omega) (by omega)
      refine Ev.step (fun n => ?_) ih
      simp only [jam_game_costs.l1]
      rw [if_pos (by omega), if_pos (by omega), if_pos (by rw [mapR_len]; omega), if_pos (by omega), if_pos (by omega), if_pos (by omega), if_pos hc.2, show rd (rd_L12 R (i : Int)) (rd c (i : Int)) = rte R c i from rfl, hbk.1, if_pos hb1, mapR_rd (by omega), hpay.1, Option.bind_some, wsm (by unfold sm; omega), wrapN k (by omega)]
    · rw [if_neg hb1] at ha
      have ih := costs_l1 U r i hi x7 x8 h7 hn m (k + 1) a (by omega) (by omega) (by omega) (by omega)
      refine Ev.step (fun n => ?_) ih
      simp only [jam_game_costs.l1]
      rw [if_pos (by omega), if_pos (by omega), if_pos (by rw [mapR_len]; omega), if_pos (by omega), if_pos (by omega), if_pos (by omega), if_pos hc.2, show rd (rd_L12 R (i : Int)) (rd c (i : Int)) = rte R c i from rfl, hbk.1, if_neg hb1, wrapN k (by omega)]
theorem costs_l0 (U : List Unit) : ∀ (m i : Nat), i + m = R.length → Ev (fun n => jam_game_costs.l0 n (mapR T.length (uF R c R.length)) (mapR i (cst R T c)) (totF R T c i) c (c.length : Int) (i : Int) R U (payF T)) (mapR R.length (cst R T c), totF R T c R.length)
  | 0, i, hi => by
    have e : i = R.length := by omega
    subst e
    have hl := h.len
    refine Ev.step (f := fun _ => some (mapR R.length (cst R T c), totF R T c R.length)) (fun n => ?_) (Ev.now _)
    simp only [jam_game_costs.l0]
    rw [if_neg (by omega)]
  | m + 1, i, hi => by
    have hl := h.len
    have h5 := g.r5
    have hcb := cst_b g h (i := i) (by omega)
    have htb := totF_b g h i (by omega)
    have ih := costs_l0 U m (i + 1) (by omega)
    have hin := costs_l1 g h U _ i (by omega) (mapR i (cst R T c)) (totF R T c i) (mapR_len _ _) (by
      rw [mapR_succ, wsm (by unfold sm; omega)]; exact ih) T.length 0 0 (by omega) (by omega) (by omega) (by unfold cst; omega)
    refine Ev.step (fun n => ?_) hin
    simp only [jam_game_costs.l0]
    rw [if_pos (by omega), if_pos (by omega), if_pos (by omega), mapR_len]
    rfl
theorem costs_ev : Ev (fun n => jam_game_costs.f n R (unitsOf T) (payF T) c) (mapR R.length (cst R T c), totF R T c R.length) := by
  unfold jam_game_costs.f
  exact Ev.bind (users_ev g h (payF T)) (costs_l0 g h (unitsOf T) R.length 0 (by omega))
end
end Go.Proofs.Ytjgbdicbdlollaa.B
namespace Go.Proofs.Ytjgbdicbdlollaa.B
open Go.RowKit Go.Sort Go.Proofs.YtjgbdicbdlollaaW.PrintWords Go.Proofs.YtjgbdicbdlollaaW.PrintLast Go.Proofs.YtjgbdicbdlollaaW.PrintMore
set_option linter.unusedVariables false
set_option linter.unusedSimpArgs false
theorem allRd {l : List Int} {P : Int → Prop} : (∀ q : Nat, q < l.length → P (rd l (q : Int))) ↔ ∀ x ∈ l, P x := by
  constructor
  · intro h x hx
    obtain ⟨q, hq, rfl⟩ := List.mem_iff_getElem.1 hx
    rw [← rdN l q hq]; exact h q hq
  · intro h q hq
    exact h _ (rd_mem2 l q hq)
theorem all_rdL {l : List (List Int)} {P : List Int → Prop} : (∀ q : Nat, q < l.length → P (rd_L12 l (q : Int))) ↔ ∀ x ∈ l, P x := by
  constructor
  · intro h x hx
    obtain ⟨q, hq, rfl⟩ := List.mem_iff_getElem.1 hx
    rw [← rdL l q hq]; exact h q hq
  · intro h q hq
    exact h _ (rdL_mem l q hq)
theorem shl_pow {m : Nat} (h : m ≤ 8) : shl .i64 1 (m : Int) = 2 ^ m := by
  have : ∀ a : Fin 9, shl .i64 1 ((a.val : Nat) : Int) = 2 ^ a.val := by decide +kernel
  exact this ⟨m, by omega⟩
structure FewOk (R T : List (List Int)) (c : List Int) : Prop where
  r : R.length ≤ 20
  t : T.length ≤ 20
  rr : ∀ x ∈ R, x.length ≤ 20
  tt : ∀ x ∈ T, x.length ≤ 20
  c : c.length ≤ 20
theorem few_l1 (R T : List (List Int)) (c : List Int) : ∀ (m i : Nat), i + m = 20 → ∃ b, Ev (fun k => trishawlaw02_few.l1 k c (i : Int) R T) b ∧ (b = true ↔ (T.length ≤ 20 ∧ ∀ q : Nat, i ≤ q → q < T.length → (rd_L12 T (q : Int)).length ≤ 20) ∧ c.length ≤ 20)
  | 0, i, h => by
    by_cases hT : i < T.length
    · refine ⟨false, Ev.step (f := fun _ => some false) (fun k => ?_) (Ev.now _), by simp; intro h1; omega⟩
      simp only [trishawlaw02_few.l1]
      rw [if_pos (by omega), if_pos (by omega)]
    · refine ⟨decide ((c.length : Int) ≤ 20), Ev.step (f := fun _ => some (decide ((c.length : Int) ≤ 20))) (fun k => ?_) (Ev.now _), ?_⟩
      · simp only [trishawlaw02_few.l1]
        rw [if_neg (by omega)]
      · rw [decide_eq_true_eq]
        exact ⟨fun h1 => ⟨⟨by omega, fun q h2 h3 => by omega⟩, by omega⟩, fun h1 => by have := h1.2; omega⟩
  | m + 1, i, h => by
    by_cases hT : i < T.length
    · by_cases hl : ((rd_L12 T (i : Int)).length : Int) > 20
      · refine ⟨false, Ev.step (f := fun _ => some false) (fun k => ?_) (Ev.now _), ?_⟩
        · simp only [trishawlaw02_few.l1]
          rw [if_pos (by omega), if_neg (by omega), if_pos (by omega), if_pos hl]
        · constructor
          · intro h1; exact absurd h1 (by simp)
          · intro h1; have := h1.1.2 i (Nat.le_refl _) hT; omega
      · obtain ⟨b, hb, hi⟩ := few_l1 R T c m (i + 1) (by omega)
        refine ⟨b, Ev.step (fun k => ?_) hb, ?_⟩
        · simp only [trishawlaw02_few.l1]
          rw [if_pos (by omega), if_neg (by omega), if_pos (by omega), if_neg hl, wrapN i (by omega)]
        · rw [hi]
          refine ⟨fun h1 => ⟨⟨h1.1.1, fun q h2 h3 => ?_⟩, h1.2⟩, fun h1 => ⟨⟨h1.1.1, fun q h2 h3 => h1.1.2 q (by omega) h3⟩, h1.2⟩⟩
          by_cases he : q = i
          · subst he; omega
          · exact h1.1.2 q (by omega) h3
    · refine ⟨decide ((c.length : Int) ≤ 20), Ev.step (f := fun _ => some (decide ((c.length : Int) ≤ 20))) (fun k => ?_) (Ev.now _), ?_⟩
      · simp only [trishawlaw02_few.l1]
        rw [if_neg (by omega)]
      · rw [decide_eq_true_eq]
        exact ⟨fun h1 => ⟨⟨by omega, fun q h2 h3 => by omega⟩, by omega⟩, fun h1 => by have := h1.2; omega⟩
theorem few_l0 (R T : List (List Int)) (c : List Int) : ∀ (m i : Nat), i + m = 20 → ∃ b, Ev (fun k => trishawlaw02_few.l0 k c (i : Int) R T) b ∧ (b = true ↔ (R.length ≤ 20 ∧ ∀ q : Nat, i ≤ q → q < R.length → (rd_L12 R (q : Int)).length ≤ 20) ∧ (T.length ≤ 20 ∧ ∀ q : Nat, 0 ≤ q → q < T.length → (rd_L12 T (q : Int)).length ≤ 20) ∧ c.length ≤ 20)
  | 0, i, h => by
    by_cases hT : i < R.length
    · refine ⟨false, Ev.step (f := fun _ => some false) (fun k => ?_) (Ev.now _), by simp; intro h1; omega⟩
      simp only [trishawlaw02_few.l0]
      rw [if_pos (by omega), if_pos (by omega)]
    · obtain ⟨b, hb, hi⟩ := few_l1 R T c 20 0 rfl
      refine ⟨b, Ev.step (fun k => ?_) hb, ?_⟩
      · simp only [trishawlaw02_few.l0]
        rw [if_neg (by omega)]; rfl
      · rw [hi]
        exact ⟨fun h1 => ⟨⟨by omega, fun q h2 h3 => by omega⟩, h1⟩, fun h1 => h1.2⟩
  | m + 1, i, h => by
    by_cases hT : i < R.length
    · by_cases hl : ((rd_L12 R (i : Int)).length : Int) > 20
      · refine ⟨false, Ev.step (f := fun _ => some false) (fun k => ?_) (Ev.now _), ?_⟩
        · simp only [trishawlaw02_few.l0]
          rw [if_pos (by omega), if_neg (by omega), if_pos (by omega), if_pos hl]
        · constructor
          · intro h1; exact absurd h1 (by simp)
          · intro h1; have := h1.1.2 i (Nat.le_refl _) hT; omega
      · obtain ⟨b, hb, hi⟩ := few_l0 R T c m (i + 1) (by omega)
        refine ⟨b, Ev.step (fun k => ?_) hb, ?_⟩
        · simp only [trishawlaw02_few.l0]
          rw [if_pos (by omega), if_neg (by omega), if_pos (by omega), if_neg hl, wrapN i (by omega)]
        · rw [hi]
          refine ⟨fun h1 => ⟨⟨h1.1.1, fun q h2 h3 => ?_⟩, h1.2⟩, fun h1 => ⟨⟨h1.1.1, fun q h2 h3 => h1.1.2 q (by omega) h3⟩, h1.2⟩⟩
          by_cases he : q = i
          · subst he; omega
          · exact h1.1.2 q (by omega) h3
    · obtain ⟨b, hb, hi⟩ := few_l1 R T c 20 0 rfl
      refine ⟨b, Ev.step (fun k => ?_) hb, ?_⟩
      · simp only [trishawlaw02_few.l0]
        rw [if_neg (by omega)]; rfl
      · rw [hi]
        exact ⟨fun h1 => ⟨⟨by omega, fun q h2 h3 => by omega⟩, h1⟩, fun h1 => h1.2⟩
theorem few_ev (R T : List (List Int)) (c : List Int) : ∃ b, Ev (fun k => trishawlaw02_few.f k R T c) b ∧ (b = true ↔ FewOk R T c) := by
  obtain ⟨b, hb, hi⟩ := few_l0 R T c 20 0 rfl
  refine ⟨b, hb, hi.trans ⟨fun h => ⟨h.1.1, h.2.1.1, ?_, ?_, h.2.2⟩, fun h => ⟨⟨h.r, ?_⟩, ⟨h.t, ?_⟩, h.c⟩⟩⟩
  · exact all_rdL.1 fun q hq => h.1.2 q (Nat.zero_le _) hq
  · exact all_rdL.1 fun q hq => h.2.1.2 q (Nat.zero_le _) hq
  · exact fun q _ hq => h.rr _ (rdL_mem R q hq)
  · exact fun q _ hq => h.tt _ (rdL_mem T q hq)
section
variable (R T : List (List Int)) (h5 : R.length ≤ 5) (h8 : T.length ≤ 8)
include h5 h8
theorem ig_l3 (k : Nat) (hk : k < T.length) (hl : (rd_L12 T (k : Int)).length = R.length) (b2 : Bool) (h2 : Ev (fun n => trishawref02_IsGame.l2 n (R.length : Int) (T.length : Int) ((k + 1 : Nat) : Int) R T) b2) : ∀ (m j : Nat), j + m = R.length →
    ∃ b, Ev (fun n => trishawref02_IsGame.l3 n (R.length : Int) (T.length : Int) (k : Int) (j : Int) R T) b ∧ (b = true ↔ (∀ q : Nat, j ≤ q → q < R.length → 0 ≤ rd (rd_L12 T (k : Int)) (q : Int) ∧ rd (rd_L12 T (k : Int)) (q : Int) ≤ 1000) ∧ b2 = true)
  | 0, j, h => by
    refine ⟨b2, Ev.step (fun n => ?_) h2, ⟨fun h => ⟨fun q h1 h2 => by omega, h⟩, fun h => h.2⟩⟩
    simp only [trishawref02_IsGame.l3]
    rw [if_neg (by omega), wrapN k (by omega)]
  | m + 1, j, h => by
    by_cases hx : 0 ≤ rd (rd_L12 T (k : Int)) (j : Int) ∧ rd (rd_L12 T (k : Int)) (j : Int) ≤ 1000
    · obtain ⟨b, hb, hi⟩ := ig_l3 k hk hl b2 h2 m (j + 1) (by omega)
      refine ⟨b, Ev.step (fun n => ?_) hb, hi.trans ⟨fun h => ⟨fun q h1 h2 => ?_, h.2⟩, fun h => ⟨fun q h1 h2 => h.1 q (by omega) h2, h.2⟩⟩⟩
      · simp only [trishawref02_IsGame.l3]
        rw [if_pos (by omega), if_pos (by omega), if_pos (by omega), if_pos (by omega), if_pos (by omega), if_neg (by omega), if_neg (by omega), wrapN j (by omega)]
      · by_cases he : q = j
        · subst he; exact hx
        · exact h.1 q (by omega) h2
    · refine ⟨false, Ev.step (f := fun _ => some false) (fun n => ?_) (Ev.now _), ⟨fun h => absurd h (by simp), fun h => absurd (h.1 j (Nat.le_refl _) (by omega)) hx⟩⟩
      simp only [trishawref02_IsGame.l3]
      rw [if_pos (by omega), if_pos (by omega), if_pos (by omega), if_pos (by omega), if_pos (by omega)]
      by_cases h0 : rd (rd_L12 T (k : Int)) (j : Int) < 0
      · rw [if_pos h0]
      · rw [if_neg h0, if_pos (by omega)]
theorem ig_l2 : ∀ (m k : Nat), k + m = T.length → ∃ b, Ev (fun n => trishawref02_IsGame.l2 n (R.length : Int) (T.length : Int) (k : Int) R T) b ∧ (b = true ↔ ∀ q : Nat, k ≤ q → q < T.length → (rd_L12 T (q : Int)).length = R.length ∧ ∀ x ∈ rd_L12 T (q : Int), 0 ≤ x ∧ x ≤ 1000)
  | 0, k, h => by
    refine ⟨true, Ev.step (f := fun _ => some true) (fun n => ?_) (Ev.now _), ⟨fun _ q h1 h2 => by omega, fun _ => rfl⟩⟩
    simp only [trishawref02_IsGame.l2]
    rw [if_neg (by omega)]
  | m + 1, k, h => by
    by_cases hl : (rd_L12 T (k : Int)).length = R.length
    · obtain ⟨b2, hb2, hi2⟩ := ig_l2 m (k + 1) (by omega)
      obtain ⟨b, hb, hi⟩ := ig_l3 R T h5 h8 k (by omega) hl b2 hb2 R.length 0 (by omega)
      refine ⟨b, Ev.step (fun n => ?_) hb, hi.trans ⟨fun h q h1 h2 => ?_, fun h => ⟨fun q h1 h2 => ?_, hi2.2 fun q h1 h2 => h q (by omega) h2⟩⟩⟩
      · simp only [trishawref02_IsGame.l2]
        rw [if_pos (by omega), if_pos (by omega), if_pos (by omega), if_pos (by omega)]
        rfl
      · by_cases he : q = k
        · subst he
          exact ⟨hl, allRd.1 fun p hp => h.1 p (Nat.zero_le _) (by omega)⟩
        · exact hi2.1 h.2 q (by omega) h2
      · exact (h k (Nat.le_refl _) (by omega)).2 _ (rd_mem2 _ q (by omega))
    · refine ⟨false, Ev.step (f := fun _ => some false) (fun n => ?_) (Ev.now _), ⟨fun h => absurd h (by simp), fun h => absurd (h k (Nat.le_refl _) (by omega)).1 hl⟩⟩
      simp only [trishawref02_IsGame.l2]
      rw [if_pos (by omega), if_pos (by omega), if_pos (by omega), if_neg (by omega)]
theorem ig_l1 (i : Nat) (hi : i < R.length) (hl : (rd_L12 R (i : Int)).length ≤ 5) (b2 : Bool) (h2 : Ev (fun n => trishawref02_IsGame.l0 n (R.length : Int) (T.length : Int) ((i + 1 : Nat) : Int) R T) b2) : ∀ (m j : Nat), j + m = (rd_L12 R (i : Int)).length →
    ∃ b, Ev (fun n => trishawref02_IsGame.l1 n (R.length : Int) (T.length : Int) (i : Int) (j : Int) R T) b ∧ (b = true ↔ (∀ q : Nat, j ≤ q → q < (rd_L12 R (i : Int)).length → 1 ≤ rd (rd_L12 R (i : Int)) (q : Int) ∧ rd (rd_L12 R (i : Int)) (q : Int) < 2 ^ T.length) ∧ b2 = true)
  | 0, j, h => by
    refine ⟨b2, Ev.step (fun n => ?_) h2, ⟨fun h => ⟨fun q h1 h2 => by omega, h⟩, fun h => h.2⟩⟩
    simp only [trishawref02_IsGame.l1]
    rw [if_pos (by omega), if_pos (by omega), if_neg (by omega), wrapN i (by omega)]
  | m + 1, j, h => by
    have hs := shl_pow h8
    by_cases hx : 1 ≤ rd (rd_L12 R (i : Int)) (j : Int) ∧ rd (rd_L12 R (i : Int)) (j : Int) < 2 ^ T.length
    · obtain ⟨b, hb, hi2⟩ := ig_l1 i hi hl b2 h2 m (j + 1) (by omega)
      refine ⟨b, Ev.step (fun n => ?_) hb, hi2.trans ⟨fun h => ⟨fun q h1 h2 => ?_, h.2⟩, fun h => ⟨fun q h1 h2 => h.1 q (by omega) h2, h.2⟩⟩⟩
      · simp only [trishawref02_IsGame.l1]
        rw [if_pos (by omega), if_pos (by omega), if_pos (by omega), if_pos (by omega), if_neg (by omega), if_pos (by omega), hs, if_neg (by omega), wrapN j (by omega)]
      · by_cases he : q = j
        · subst he; exact hx
        · exact h.1 q (by omega) h2
    · refine ⟨false, Ev.step (f := fun _ => some false) (fun n => ?_) (Ev.now _), ⟨fun h => absurd h (by simp), fun h => absurd (h.1 j (Nat.le_refl _) (by omega)) hx⟩⟩
      simp only [trishawref02_IsGame.l1]
      rw [if_pos (by omega), if_pos (by omega), if_pos (by omega), if_pos (by omega)]
      by_cases h0 : rd (rd_L12 R (i : Int)) (j : Int) < 1
      · rw [if_pos h0]
      · rw [if_neg h0, if_pos (by omega), hs, if_pos (by omega)]
theorem ig_l0 : ∀ (m i : Nat), i + m = R.length → ∃ b, Ev (fun n => trishawref02_IsGame.l0 n (R.length : Int) (T.length : Int) (i : Int) R T) b ∧ (b = true ↔ (∀ q : Nat, i ≤ q → q < R.length → 1 ≤ (rd_L12 R (q : Int)).length ∧ (rd_L12 R (q : Int)).length ≤ 5 ∧ ∀ x ∈ rd_L12 R (q : Int), 1 ≤ x ∧ x < 2 ^ T.length) ∧ (∀ q : Nat, q < T.length → (rd_L12 T (q : Int)).length = R.length ∧ ∀ x ∈ rd_L12 T (q : Int), 0 ≤ x ∧ x ≤ 1000))
  | 0, i, h => by
    obtain ⟨b2, hb2, hi2⟩ := ig_l2 R T h5 h8 T.length 0 (by omega)
    refine ⟨b2, Ev.step (fun n => ?_) hb2, hi2.trans ⟨fun h => ⟨fun q h1 h2 => by omega, fun q h1 => h q (Nat.zero_le _) h1⟩, fun h q _ h1 => h.2 q h1⟩⟩
    simp only [trishawref02_IsGame.l0]
    rw [if_neg (by omega)]
    rfl
  | m + 1, i, h => by
    have hbad : ¬ (1 ≤ (rd_L12 R (i : Int)).length ∧ (rd_L12 R (i : Int)).length ≤ 5) → Ev (fun n => trishawref02_IsGame.l0 n (R.length : Int) (T.length : Int) (i : Int) R T) false := by
      intro hx
      have hj : Ev (fun n => trishawref02_IsGame.j2 n (R.length : Int) (T.length : Int) (i : Int) true R T) false := Ev.step (f := fun _ => some false) (fun n => by simp [trishawref02_IsGame.j2]) (Ev.now _)
      refine Ev.step (fun n => ?_) hj
      simp only [trishawref02_IsGame.l0]
      rw [if_pos (by omega), if_pos (by omega), if_pos (by omega)]
      by_cases h0 : ((rd_L12 R (i : Int)).length : Int) < 1
      · rw [if_pos h0]
      · rw [if_neg h0, decide_eq_true (by omega)]
    by_cases hx : 1 ≤ (rd_L12 R (i : Int)).length ∧ (rd_L12 R (i : Int)).length ≤ 5
    · obtain ⟨b2, hb2, hi2⟩ := ig_l0 m (i + 1) (by omega)
      obtain ⟨b, hb, hi3⟩ := ig_l1 R T h5 h8 i (by omega) hx.2 b2 hb2 _ 0 (Nat.zero_add _)
      have hj : Ev (fun n => trishawref02_IsGame.j2 n (R.length : Int) (T.length : Int) (i : Int) false R T) b := Ev.step (fun n => by simp only [trishawref02_IsGame.j2]; rw [if_neg (by simp)]; rfl) hb
      refine ⟨b, Ev.step (fun n => ?_) hj, hi3.trans ⟨fun h => ⟨fun q h1 h2 => ?_, (hi2.1 h.2).2⟩, fun h => ⟨fun q h1 h2 => ?_, hi2.2 ⟨fun q h1 h2 => h.1 q (by omega) h2, h.2⟩⟩⟩⟩
      · simp only [trishawref02_IsGame.l0]
        rw [if_pos (by omega), if_pos (by omega), if_pos (by omega), if_neg (by omega), decide_eq_false (by omega)]
      · by_cases he : q = i
        · subst he
          exact ⟨hx.1, hx.2, allRd.1 fun p hp => h.1 p (Nat.zero_le _) hp⟩
        · exact (hi2.1 h.2).1 q (by omega) h2
      · exact (h.1 i (Nat.le_refl _) (by omega)).2.2 _ (rd_mem2 _ q h2)
    · refine ⟨false, hbad hx, ⟨fun h => absurd h (by simp), fun h => absurd ⟨(h.1 i (Nat.le_refl _) (by omega)).1, (h.1 i (Nat.le_refl _) (by omega)).2.1⟩ hx⟩⟩
end
theorem isGame_ev (R T : List (List Int)) : ∃ b, Ev (fun k => trishawref02_IsGame.f k R T) b ∧ (b = true ↔ GameOk R T) := by
  by_cases hx : 1 ≤ R.length ∧ R.length ≤ 5 ∧ 1 ≤ T.length ∧ T.length ≤ 8
  · obtain ⟨b, hb, hi⟩ := ig_l0 R T hx.2.1 hx.2.2.2 R.length 0 (by omega)
    have hj : Ev (fun n => trishawref02_IsGame.j0 n (R.length : Int) (T.length : Int) false R T) b := Ev.step (fun n => by simp only [trishawref02_IsGame.j0]; rw [if_neg (by simp)]; rfl) hb
    refine ⟨b, Ev.congr (fun k => ?_) hj, hi.trans ⟨fun h => ⟨hx.1, hx.2.1, hx.2.2.1, hx.2.2.2, all_rdL.1 fun q hq => h.1 q (Nat.zero_le _) hq, all_rdL.1 h.2⟩, fun h => ⟨fun q _ hq => h.row _ (rdL_mem R q hq), fun q hq => h.toll _ (rdL_mem T q hq)⟩⟩⟩
    unfold trishawref02_IsGame.f
    rw [if_neg (by omega), if_neg (by omega), if_neg (by omega), decide_eq_false (by omega)]
  · have hj : Ev (fun n => trishawref02_IsGame.j0 n (R.length : Int) (T.length : Int) true R T) false := Ev.step (f := fun _ => some false) (fun n => by simp [trishawref02_IsGame.j0]) (Ev.now _)
    refine ⟨false, Ev.congr (fun k => ?_) hj, ⟨fun h => absurd h (by simp), fun h => absurd ⟨h.r1, h.r5, h.t1, h.t8⟩ hx⟩⟩
    unfold trishawref02_IsGame.f
    by_cases h1 : (R.length : Int) < 1
    · rw [if_pos h1]
    · rw [if_neg h1]
      by_cases h2 : (R.length : Int) > 5
      · rw [if_pos h2]
      · rw [if_neg h2]
        by_cases h3 : (T.length : Int) < 1
        · rw [if_pos h3]
        · rw [if_neg h3, decide_eq_true (by omega)]
theorem le_minU (l : List Int) (a : Int) : ∀ i : Nat, a ≤ minU l i ↔ ∀ q : Nat, q ≤ i → a ≤ rd l (q : Int)
  | 0 => by
    simp only [minU]
    exact ⟨fun h q hq => by obtain rfl : q = 0 := by omega
                            exact h, fun h => h 0 (Nat.le_refl _)⟩
  | i + 1 => by
    have ih := le_minU l a i
    have e : a ≤ minU l (i + 1) ↔ a ≤ minU l i ∧ a ≤ rd l ((i + 1 : Nat) : Int) := by
      simp only [minU, mn]
      split <;> omega
    rw [e, ih]
    refine ⟨fun h q hq => ?_, fun h => ⟨fun q hq => h q (by omega), h _ (Nat.le_refl _)⟩⟩
    by_cases he : q = i + 1
    · subst he; exact h.2
    · exact h.1 q (by omega)
theorem maxU_le (l : List Int) (a : Int) : ∀ i : Nat, maxU l i ≤ a ↔ ∀ q : Nat, q ≤ i → rd l (q : Int) ≤ a
  | 0 => by
    simp only [maxU]
    exact ⟨fun h q hq => by obtain rfl : q = 0 := by omega
                            exact h, fun h => h 0 (Nat.le_refl _)⟩
  | i + 1 => by
    have ih := maxU_le l a i
    have e : maxU l (i + 1) ≤ a ↔ maxU l i ≤ a ∧ rd l ((i + 1 : Nat) : Int) ≤ a := by
      simp only [maxU, mx]
      split <;> omega
    rw [e, ih]
    refine ⟨fun h q hq => ?_, fun h => ⟨fun q hq => h q (by omega), h _ (Nat.le_refl _)⟩⟩
    by_cases he : q = i + 1
    · subst he; exact h.2
    · exact h.1 q (by omega)
theorem minU_all (l : List Int) (a : Int) (h : 1 ≤ l.length) : a ≤ minU l (l.length - 1) ↔ ∀ x ∈ l, a ≤ x := by
  rw [le_minU, ← allRd]
  exact ⟨fun h1 q hq => h1 q (by omega), fun h1 q hq => h1 q (by omega)⟩
theorem maxU_all (l : List Int) (a : Int) (h : 1 ≤ l.length) : maxU l (l.length - 1) ≤ a ↔ ∀ x ∈ l, x ≤ a := by
  rw [maxU_le, ← allRd]
  exact ⟨fun h1 q hq => h1 q (by omega), fun h1 q hq => h1 q (by omega)⟩
theorem readOk_iff (R T : List (List Int)) : readOk R T = true ↔ GameOk R T := by
  unfold readOk
  simp only [Bool.and_eq_true, decide_eq_true_eq, List.all_eq_true]
  constructor
  · rintro ⟨⟨⟨⟨⟨h1, h2⟩, h3⟩, h4⟩, h5⟩, h6⟩
    refine ⟨h1, h2, h3, h4, fun l hl => ?_, fun t ht => ?_⟩
    · have := h6 l hl
      unfold routeOk at this
      simp only [Bool.and_eq_true, decide_eq_true_eq] at this
      obtain ⟨⟨⟨a1, a2⟩, a3⟩, a4⟩ := this
      rw [shl_pow h4] at a4
      refine ⟨a1, a2, fun x hx => ⟨(minU_all l 1 a1).1 a3 x hx, ?_⟩⟩
      have := (maxU_all l (2 ^ T.length - 1) a1).1 (by omega) x hx
      omega
    · have := h5 t ht
      unfold tollOk at this
      simp only [Bool.and_eq_true, decide_eq_true_eq] at this
      obtain ⟨⟨a1, a2⟩, a3⟩ := this
      exact ⟨a1, fun x hx => ⟨(minU_all t 0 (by omega)).1 a2 x hx, (maxU_all t 1000 (by omega)).1 a3 x hx⟩⟩
  · intro g
    refine ⟨⟨⟨⟨⟨g.r1, g.r5⟩, g.t1⟩, g.t8⟩, fun t ht => ?_⟩, fun l hl => ?_⟩
    · have h := g.toll t ht
      have h1 := g.r1
      unfold tollOk
      simp only [Bool.and_eq_true, decide_eq_true_eq]
      exact ⟨⟨h.1, (minU_all t 0 (by omega)).2 fun x hx => (h.2 x hx).1⟩, (maxU_all t 1000 (by omega)).2 fun x hx => (h.2 x hx).2⟩
    · have h := g.row l hl
      unfold routeOk
      simp only [Bool.and_eq_true, decide_eq_true_eq]
      refine ⟨⟨⟨h.1, h.2.1⟩, (minU_all l 1 h.1).2 fun x hx => (h.2.2 x hx).1⟩, ?_⟩
      rw [shl_pow g.t8]
      have := (maxU_all l (2 ^ T.length - 1) h.1).2 fun x hx => by have := (h.2.2 x hx).2; omega
      omega
theorem choiceOk_iff (R : List (List Int)) (c : List Int) : choiceOk R c = true ↔ ChOk R c := by
  unfold choiceOk
  simp only [Bool.and_eq_true, decide_eq_true_eq, List.all_eq_true, List.mem_range]
  exact ⟨fun h => ⟨h.1, fun i hi => h.2 i (by omega)⟩, fun h => ⟨h.len, fun i hi => h.ok i (by have := h.len; omega)⟩⟩
theorem playOk_iff (R T : List (List Int)) (c : List Int) : playOk R T c = true ↔ GameOk R T ∧ ChOk R c := by
  unfold playOk
  rw [Bool.and_eq_true, readOk_iff, choiceOk_iff]
end Go.Proofs.Ytjgbdicbdlollaa.B
namespace Go.Proofs.Ytjgbdicbdlollaa.B
open Go.RowKit Go.Sort Go.Proofs.YtjgbdicbdlollaaW.PrintWords Go.Proofs.YtjgbdicbdlollaaW.PrintLast Go.Proofs.YtjgbdicbdlollaaW.PrintMore
set_option linter.unusedVariables false
set_option linter.unusedSimpArgs false
def Agree (i : Nat) (a b : List Int) : Prop := ∀ j : Nat, j < i → rd a (j : Int) = rd b (j : Int)
def LexLe (n : Nat) (b c : List Int) : Prop := b = c ∨ ∃ j : Nat, j < n ∧ Agree j b c ∧ rd b (j : Int) < rd c (j : Int)
theorem agree_all {n : Nat} {a b : List Int} (ha : a.length = n) (hb : b.length = n) (h : Agree n a b) : a = b := by
  refine List.ext_getElem (by omega) fun i h1 h2 => ?_
  rw [← rdN a i h1, ← rdN b i h2]
  exact h i (by omega)
theorem rd_set_eq (l : List Int) (i : Nat) (v : Int) (h : i < l.length) : rd (l.set i v) (i : Int) = v := by
  rw [rdN _ i (by simpa using h)]; simp
theorem rd_set_ne (l : List Int) (i j : Nat) (v : Int) (h : j ≠ i) : rd (l.set i v) (j : Int) = rd l (j : Int) := by
  unfold rd
  simp only [Int.toNat_natCast, List.getD_eq_getElem?_getD]
  rw [List.getElem?_set_ne (fun e => h e.symm)]
abbrev tot (R T : List (List Int)) (c : List Int) : Int := totF R T c R.length
theorem chok_ne {R T : List (List Int)} (g : GameOk R T) {c : List Int} (h : ChOk R c) : c ≠ [] := by
  intro e
  have := h.len
  have := g.r1
  subst e
  simp at *
  omega
structure Inv (R T : List (List Int)) (i : Nat) (ch0 : List Int) (s0 : List Int × Int) (r : Nat) (s : List Int × Int) : Prop where
  low : ∀ c', ChOk R c' → Agree i c' ch0 → rd c' (i : Int) < r → s.2 ≤ tot R T c' ∧ (s.2 = tot R T c' → s = s0 ∨ LexLe R.length s.1 c')
  own : s = s0 ∨ (ChOk R s.1 ∧ tot R T s.1 = s.2 ∧ Agree i s.1 ch0 ∧ rd s.1 (i : Int) < r ∧ (s0.1 = [] ∨ s.2 < s0.2))
  some_ : 0 < r → s.1 ≠ []
theorem jcosts_ev {R T : List (List Int)} {c : List Int} (g : GameOk R T) (h : ChOk R c) : Ev (fun k => jam_Costs.f k R T c) (mapR R.length (cst R T c), tot R T c, 0) := by
  unfold jam_Costs.f
  exact Ev.congr (fun k => if_pos ((playOk_iff R T c).2 ⟨g, h⟩)) (Ev.bind (costs_ev g h) (Ev.now _))
end Go.Proofs.Ytjgbdicbdlollaa.B
namespace Go.Proofs.Ytjgbdicbdlollaa.B
open Go.RowKit Go.Sort Go.Proofs.YtjgbdicbdlollaaW.PrintWords Go.Proofs.YtjgbdicbdlollaaW.PrintLast Go.Proofs.YtjgbdicbdlollaaW.PrintMore
set_option linter.unusedVariables false
set_option linter.unusedSimpArgs false
set_option linter.unusedSectionVars false
section
variable {R T : List (List Int)} {c : List Int} (g : GameOk R T) (h : ChOk R c)
include g h
end
/-- What drivers pay on a street, from the u-th on. -/
def pIn (t : List Int) : Nat → Nat → Int
  | 0, _ => 0
  | m + 1, u => rd t (u : Int) + pIn t m (u + 1)
def pO (R T : List (List Int)) (c : List Int) : Nat → Nat → Int
  | 0, _ => 0
  | m + 1, k => pIn (rd_L12 T (k : Int)) (uF R c R.length k).toNat 0 + pO R T c m (k + 1)
abbrev pot (R T : List (List Int)) (c : List Int) : Int := pO R T c T.length 0
section
variable {R T : List (List Int)} {c : List Int} (g : GameOk R T) (h : ChOk R c)
include g
include h
end
section
variable {R T : List (List Int)} (hR : R.length ≤ 20) (hT : T.length ≤ 20) (hr : ∀ x ∈ R, x.length ≤ 20) (ht : ∀ x ∈ T, x.length ≤ 20)
include hR hT hr ht
end
end Go.Proofs.Ytjgbdicbdlollaa.B
namespace Go.Proofs.Ytjgbdicbdlollaa.B
open Go.RowKit Go.Sort Go.Proofs.YtjgbdicbdlollaaW.PrintWords Go.Proofs.YtjgbdicbdlollaaW.PrintLast Go.Proofs.YtjgbdicbdlollaaW.PrintMore
set_option linter.unusedVariables false
set_option linter.unusedSimpArgs false
set_option linter.unusedSectionVars false
theorem chok_set {R : List (List Int)} {c : List Int} (h : ChOk R c) {i r : Nat} (hr : r < (rd_L12 R (i : Int)).length) : ChOk R (c.set i (r : Int)) := by
  refine ⟨by simpa using h.len, fun j hj => ?_⟩
  by_cases e : j = i
  · subst e
    rw [rd_set_eq c j _ (by have := h.len; omega)]
    omega
  · rw [rd_set_ne c i j _ e]
    exact h.ok j hj
theorem rte_ne {R : List (List Int)} (c : List Int) (i j : Nat) (v : Int) (h : j ≠ i) : rte R (c.set i v) j = rte R c j := by
  unfold rte
  rw [rd_set_ne c i j v h]
theorem uF_set {R : List (List Int)} (c : List Int) (i : Nat) (v : Int) (k : Nat) : ∀ m, uF R (c.set i v) m k = if i < m then uF R c m k - bk (rte R c i) k + bk (rte R (c.set i v) i) k else uF R c m k
  | 0 => by simp [uF]
  | m + 1 => by
    have ih := uF_set (R := R) c i v k m
    simp only [uF]
    by_cases h1 : i < m
    · rw [if_pos h1] at ih
      rw [if_pos (by omega), ih, rte_ne c i m v (by omega)]
      omega
    · rw [if_neg h1] at ih
      by_cases h2 : i = m
      · subst h2
        rw [if_pos (by omega), ih]
        omega
      · rw [if_neg (by omega), ih, rte_ne c i m v (by omega)]
theorem pIn_last (t : List Int) : ∀ (m u : Nat), pIn t (m + 1) u = pIn t m u + rd t ((u + m : Nat) : Int)
  | 0, u => by simp [pIn]
  | m + 1, u => by
    have ih := pIn_last t m (u + 1)
    rw [pIn, ih, pIn]
    rw [show u + 1 + m = u + (m + 1) by omega]
    omega
section
variable {R T : List (List Int)} {c : List Int} (g : GameOk R T) (h : ChOk R c)
include g h
theorem ros_street {i r : Nat} (hi : i < R.length) (hr : r < (rd_L12 R (i : Int)).length) {k : Nat} (hk : k < T.length) :
    pIn (rd_L12 T (k : Int)) (uF R (c.set i (r : Int)) R.length k).toNat 0 + (if bk (rte R c i) k = 1 then rd (rd_L12 T (k : Int)) (uF R c R.length k - 1) else 0)
      = pIn (rd_L12 T (k : Int)) (uF R c R.length k).toNat 0 + (if bk (rte R (c.set i (r : Int)) i) k = 1 then rd (rd_L12 T (k : Int)) (uF R (c.set i (r : Int)) R.length k - 1) else 0) := by
  have h2 := chok_set h hr
  have hu := uF_set (R := R) c i (r : Int) k R.length
  rw [if_pos hi] at hu
  have h8 := g.t8
  have hp := pow_b g.t8
  have b1 := rte_b g h hi
  have b2 := rte_b g h2 hi
  have d1 := (bk_and (x := rte R c i) (k := k) (by omega) (by omega) (by omega)).2.2
  have d2 := (bk_and (x := rte R (c.set i (r : Int)) i) (k := k) (by omega) (by omega) (by omega)).2.2
  have u1 := uF_b g h hk R.length (Nat.le_refl _)
  have u2 := uF_b g h2 hk R.length (Nat.le_refl _)
  generalize uF R (c.set i (r : Int)) R.length k = v at *
  have up : bk (rte R c i) k = 1 → 1 ≤ uF R c R.length k := uF_pos g h hk R.length (Nat.le_refl _) hi
  generalize uF R c R.length k = u at *
  generalize bk (rte R c i) k = a at *
  generalize bk (rte R (c.set i (r : Int)) i) k = b at *
  rcases d1 with rfl | rfl <;> rcases d2 with rfl | rfl
  · have : v = u := by omega
    subst this; simp
  · have e : v.toNat = u.toNat + 1 := by omega
    rw [e, pIn_last, if_neg (by decide), if_pos rfl, show ((0 + u.toNat : Nat) : Int) = v - 1 by omega]
    omega
  · have hpos := up rfl
    have e : u.toNat = v.toNat + 1 := by omega
    rw [e, pIn_last, if_pos rfl, if_neg (by decide), show ((0 + v.toNat : Nat) : Int) = u - 1 by omega]
    omega
  · have : v = u := by omega
    subst this; rfl
theorem ros_sum {i r : Nat} (hi : i < R.length) (hr : r < (rd_L12 R (i : Int)).length) : ∀ (m k : Nat), k + m = T.length → pO R T (c.set i (r : Int)) m k + payS R T c i m k = pO R T c m k + payS R T (c.set i (r : Int)) i m k
  | 0, k, hk => by simp [pO, payS]
  | m + 1, k, hk => by
    have ih := ros_sum hi hr m (k + 1) (by omega)
    have hs := ros_street g h hi hr (k := k) (by omega)
    simp only [pO, payS]
    omega
/-- The cost of a driver who takes another route, and the potential, change by the same number. -/
theorem rosenthal {i r : Nat} (hi : i < R.length) (hr : r < (rd_L12 R (i : Int)).length) : pot R T (c.set i (r : Int)) + cst R T c i = pot R T c + cst R T (c.set i (r : Int)) i :=
  ros_sum g h hi hr T.length 0 (by omega)
end
/-- The best route of a driver: from route r on, o the best so far. -/
def scan (R T : List (List Int)) (c : List Int) (i : Nat) : Nat → Nat → Option Nat → Int → Option Nat
  | 0, _, o, _ => o
  | m + 1, r, o, l => if cst R T (c.set i (r : Int)) i < l then scan R T c i m (r + 1) (some r) (cst R T (c.set i (r : Int)) i) else scan R T c i m (r + 1) o l
theorem scan_some (R T : List (List Int)) (c : List Int) (i : Nat) (L : Int) : ∀ (m r : Nat) (o : Option Nat) (l : Int), l ≤ L → (∀ q, o = some q → q < r ∧ cst R T (c.set i (q : Int)) i < L) → ∀ q, scan R T c i m r o l = some q → q < r + m ∧ cst R T (c.set i (q : Int)) i < L
  | 0, r, o, l, hl, ho, q, h => by simpa using ho q h
  | m + 1, r, o, l, hl, ho, q, h => by
    simp only [scan] at h
    split at h
    · rename_i hlt
      have := scan_some R T c i L m (r + 1) _ _ (by omega) (fun q' e => by injection e with e; subst e; exact ⟨by omega, by omega⟩) q h
      exact ⟨by omega, this.2⟩
    · have := scan_some R T c i L m (r + 1) _ _ hl (fun q' e => by have := ho q' e; exact ⟨by omega, this.2⟩) q h
      exact ⟨by omega, this.2⟩
/-- What a driver does who may. -/
abbrev moveF (R T : List (List Int)) (c : List Int) (i : Nat) : Option Nat := scan R T c i (rd_L12 R (i : Int)).length 0 none (cst R T c i)
def stepF (R T : List (List Int)) (c : List Int) : Nat → Nat → Option (List Int)
  | 0, _ => none
  | m + 1, i => match moveF R T c i with
    | some r => some (c.set i (r : Int))
    | none => stepF R T c m (i + 1)
theorem move_some {R T : List (List Int)} {c : List Int} {i q : Nat} (h : moveF R T c i = some q) : q < (rd_L12 R (i : Int)).length ∧ cst R T (c.set i (q : Int)) i < cst R T c i := by
  have := scan_some R T c i (cst R T c i) _ _ _ _ (Int.le_refl _) (fun q e => by cases e) q h
  exact ⟨by omega, this.2⟩
theorem stepF_some {R T : List (List Int)} {c : List Int} (g : GameOk R T) (h : ChOk R c) : ∀ (m i : Nat), i + m = R.length → ∀ c', stepF R T c m i = some c' → ChOk R c' ∧ pot R T c' < pot R T c
  | 0, _, _, c', e => by simp [stepF] at e
  | m + 1, i, hi, c', e => by
    simp only [stepF] at e
    split at e
    · rename_i r hr
      have hm := move_some hr
      injection e with e
      subst e
      have := rosenthal g h (i := i) (r := r) (by omega) hm.1
      exact ⟨chok_set h hm.1, by omega⟩
    · exact stepF_some g h m (i + 1) (by omega) c' e
def encO (o : Option Nat) : Int := match o with
  | some r => (r : Int)
  | none => -1
section
variable {R T : List (List Int)} {c : List Int} (g : GameOk R T) (h : ChOk R c)
include g h
theorem step_l1 (U : List Unit) (hU : U = unitsOf T) (x5 : List Int) (i : Nat) (hi : i < R.length) (res : List Int) (fin : Option Nat)
    (hn : fin = none → Ev (fun k => jam_game_step.l0 k c x5 (c.length : Int) ((i + 1 : Nat) : Int) R U (payF T)) res) (hs : ∀ q, fin = some q → res = c.set i (q : Int)) : ∀ (m r : Nat) (x8 : List Int) (o : Option Nat) (l : Int), r + m = (rd_L12 R (i : Int)).length → x8.length = c.length → (∀ v : Int, x8.set i v = c.set i v) → scan R T c i m r o l = fin →
    Ev (fun k => jam_game_step.l1 k c x5 (i : Int) x8 (encO o) l (c.length : Int) (i : Int) ((rd_L12 R (i : Int)).length : Int) (r : Int) R U (payF T)) res
  | 0, r, x8, o, l, hr, hx, hv, hf => by
    have hl := h.len
    have h5 := g.r5
    simp only [scan] at hf
    subst hf
    cases ho : o with
    | none =>
      refine Ev.step (fun k => ?_) (hn ho)
      simp only [jam_game_step.l1]
      rw [if_neg (by omega), if_neg (by decide), wrapN i (by omega)]
    | some q =>
      rw [hs q ho]
      refine Ev.step (f := fun _ => some (c.set i (q : Int))) (fun k => ?_) (Ev.now _)
      simp only [jam_game_step.l1]
      rw [if_neg (by omega), if_pos (show encO (some q) ≥ 0 from Int.natCast_nonneg q), if_pos (by omega), if_pos (by omega), Int.toNat_natCast, hv]
      rfl
  | m + 1, r, x8, o, l, hr, hx, hv, hf => by
    have hl := h.len
    have hrow := g.row _ (rdL_mem R i hi)
    have h2 := chok_set h (i := i) (r := r) (by omega)
    have hc := costs_ev g h2
    simp only [scan] at hf
    have hset : ∀ v : Int, (c.set i (r : Int)).set i v = c.set i v := fun v => by rw [List.set_set]
    subst hU
    by_cases hlt : cst R T (c.set i (r : Int)) i < l
    · rw [if_pos hlt] at hf
      have ih := step_l1 _ rfl x5 i hi res fin hn hs m (r + 1) (c.set i (r : Int)) (some r) _ (by omega) (by simp) hset hf
      refine Ev.step (fun k => ?_) (Ev.bind (f := fun k (bt : List Int × Int) => if (i : Int) < (bt.1.length : Int) then (if (rd bt.1 (i : Int)) < l then (jam_game_step.l1 k c x5 (i : Int) (c.set i (r : Int)) (r : Int) (rd bt.1 (i : Int)) (c.length : Int) (i : Int) ((rd_L12 R (i : Int)).length : Int) (wrap64 ((r : Int) + 1)) R (unitsOf T) (payF T)) else (jam_game_step.l1 k c x5 (i : Int) (c.set i (r : Int)) (encO o) l (c.length : Int) (i : Int) ((rd_L12 R (i : Int)).length : Int) (wrap64 ((r : Int) + 1)) R (unitsOf T) (payF T))) else none) hc (Ev.congr (fun k => ?_) ih))
      · simp only [jam_game_step.l1]
        rw [if_pos (by omega), if_pos (by omega), if_pos (by omega), Int.toNat_natCast, hv, Option.bind_some]
      · show (if (i : Int) < ((mapR R.length (cst R T (c.set i (r : Int)))).length : Int) then _ else _) = _
        rw [mapR_len, if_pos (by omega)]
        simp only [mapR_rd hi]
        rw [if_pos hlt, wrapN r (by omega)]
        rfl
    · rw [if_neg hlt] at hf
      have ih := step_l1 _ rfl x5 i hi res fin hn hs m (r + 1) (c.set i (r : Int)) o l (by omega) (by simp) hset hf
      refine Ev.step (fun k => ?_) (Ev.bind (f := fun k (bt : List Int × Int) => if (i : Int) < (bt.1.length : Int) then (if (rd bt.1 (i : Int)) < l then (jam_game_step.l1 k c x5 (i : Int) (c.set i (r : Int)) (r : Int) (rd bt.1 (i : Int)) (c.length : Int) (i : Int) ((rd_L12 R (i : Int)).length : Int) (wrap64 ((r : Int) + 1)) R (unitsOf T) (payF T)) else (jam_game_step.l1 k c x5 (i : Int) (c.set i (r : Int)) (encO o) l (c.length : Int) (i : Int) ((rd_L12 R (i : Int)).length : Int) (wrap64 ((r : Int) + 1)) R (unitsOf T) (payF T))) else none) hc (Ev.congr (fun k => ?_) ih))
      · simp only [jam_game_step.l1]
        rw [if_pos (by omega), if_pos (by omega), if_pos (by omega), Int.toNat_natCast, hv, Option.bind_some]
      · show (if (i : Int) < ((mapR R.length (cst R T (c.set i (r : Int)))).length : Int) then _ else _) = _
        rw [mapR_len, if_pos (by omega)]
        simp only [mapR_rd hi]
        rw [if_neg hlt, wrapN r (by omega)]
theorem step_l0 : ∀ (m i : Nat), i + m = R.length → Ev (fun k => jam_game_step.l0 k c (mapR R.length (cst R T c)) (c.length : Int) (i : Int) R (unitsOf T) (payF T)) ((stepF R T c m i).getD [])
  | 0, i, hi => by
    have hl := h.len
    refine Ev.step (f := fun _ => some []) (fun k => ?_) (Ev.now _)
    simp only [jam_game_step.l0]
    rw [if_neg (by omega)]
  | m + 1, i, hi => by
    have hl := h.len
    have h5 := g.r5
    have ih := step_l0 m (i + 1) (by omega)
    have hin := step_l1 g h (unitsOf T) rfl (mapR R.length (cst R T c)) i (by omega) ((stepF R T c (m + 1) i).getD []) (moveF R T c i) (fun e => by simp only [stepF]; rw [e]; exact ih) (fun q e => by simp only [stepF]; rw [e]; rfl)
      (rd_L12 R (i : Int)).length 0 c none (cst R T c i) (by omega) rfl (fun _ => rfl) rfl
    refine Ev.step (fun k => ?_) hin
    simp only [jam_game_step.l0]
    unfold slices_Clone.f
    rw [if_pos (by omega), if_pos (by omega), Option.bind_some, if_pos (by omega), mapR_len, if_pos (by omega), if_pos (by omega), mapR_rd (by omega)]
    rfl
theorem step_ev : Ev (fun k => jam_game_step.f k R (unitsOf T) (payF T) c) ((stepF R T c R.length 0).getD []) := by
  unfold jam_game_step.f
  exact Ev.bind (costs_ev g h) (step_l0 g h R.length 0 (by omega))
end
end Go.Proofs.Ytjgbdicbdlollaa.B
namespace Go.Proofs.Ytjgbdicbdlollaa.B
open Go.RowKit Go.Sort Go.Proofs.YtjgbdicbdlollaaW.PrintWords Go.Proofs.YtjgbdicbdlollaaW.PrintLast Go.Proofs.YtjgbdicbdlollaaW.PrintMore
set_option linter.unusedVariables false
set_option linter.unusedSimpArgs false
set_option linter.unusedSectionVars false
abbrev stp (R T : List (List Int)) (c : List Int) : Option (List Int) := stepF R T c R.length 0
end Go.Proofs.Ytjgbdicbdlollaa.B
namespace Go.Proofs.Ytjgbdicbdlollaa.B
open Go.RowKit Go.Sort Go.Proofs.YtjgbdicbdlollaaW.PrintWords Go.Proofs.YtjgbdicbdlollaaW.PrintLast Go.Proofs.YtjgbdicbdlollaaW.PrintMore
set_option linter.unusedVariables false
set_option linter.unusedSimpArgs false
set_option linter.unusedSectionVars false
theorem visS_ev {R T : List (List Int)} {ch : List Int} (g : GameOk R T) (h : ChOk R ch) (s : List (List Int)) (hs : s.length < 1000000) : Ev (fun k => visS k R T s ch) (s ++ if stp R T ch = none then [ch] else []) := by
  have h5 := g.r5
  have hl := h.len
  have a1 := step_ev g h
  unfold visS
  cases hc : stepF R T ch R.length 0 with
  | none =>
    rw [hc] at a1
    rw [if_pos hc]
    replace a1 : Ev (fun k => jam_game_step.f k R (unitsOf T) (payF T) ch) [] := a1
    refine Ev.bind a1 (Ev.congr (f := fun _ => some (s ++ [ch])) (fun k => ?_) (Ev.now _))
    rw [if_pos rfl]
    unfold slices_Clone.f
    rw [if_pos (by omega), Option.bind_some, if_pos hs]
  | some c' =>
    rw [hc] at a1
    have hc' := stepF_some g h R.length 0 (by omega) c' hc
    rw [if_neg (show ¬ stp R T ch = none by show ¬ stepF R T ch R.length 0 = none; rw [hc]; simp), List.append_nil]
    exact Ev.bind a1 (Ev.congr (fun k => if_neg (chok_ne g hc'.1)) (Ev.now _))
structure PostS (R T : List (List Int)) (i f : Nat) (ch : List Int) (ch' : List Int) (add : List (List Int)) : Prop where
  len : ch'.length = R.length
  agr : Agree i ch' ch
  mem : ∀ x, x ∈ add ↔ (ChOk R x ∧ Agree i x ch ∧ stp R T x = none)
  few : add.length ≤ 5 ^ f
theorem onLoopS_ev {R T : List (List Int)} (g : GameOk R T) (f i : Nat) (hi : i < R.length) (ch0 : List Int)
    (IH : ∀ (ch : List Int) (s : List (List Int)), ch.length = R.length → (∀ j : Nat, j < i + 1 → 0 ≤ rd ch (j : Int) ∧ rd ch (j : Int) < ((rd_L12 R (j : Int)).length : Int)) → s.length + 5 ^ f < 1000000 → ∃ ch' add, Ev (fun k => onF R (visS k R T) f (i + 1) ch s) (ch', s ++ add) ∧ PostS R T (i + 1) f ch ch' add)
    (h0 : ∀ j : Nat, j < i → 0 ≤ rd ch0 (j : Int) ∧ rd ch0 (j : Int) < ((rd_L12 R (j : Int)).length : Int)) :
    ∀ (m r : Nat) (ch : List Int) (s : List (List Int)), r + m = (rd_L12 R (i : Int)).length → ch.length = R.length → Agree i ch ch0 → s.length + m * 5 ^ f < 1000000 →
      ∃ ch' add, Ev (fun k => onLoop (fun c t => onF R (visS k R T) f (i + 1) c t) i m r ch s) (ch', s ++ add) ∧ ch'.length = R.length ∧ Agree i ch' ch0 ∧ (∀ x, x ∈ add ↔ (ChOk R x ∧ Agree i x ch0 ∧ (r : Int) ≤ rd x (i : Int) ∧ stp R T x = none)) ∧ add.length ≤ m * 5 ^ f
  | 0, r, ch, s, hr, hl, ha, hs => by
    refine ⟨ch, [], by rw [List.append_nil]; exact Ev.now (ch, s), hl, ha, fun x => ⟨fun h => by simp at h, fun h => ?_⟩, by simp⟩
    have := (h.1.ok i hi).2
    omega
  | m + 1, r, ch, s, hr, hl, ha, hs => by
    rw [Nat.succ_mul] at hs
    have hset : ∀ j : Nat, j < i → rd (ch.set i (r : Int)) (j : Int) = rd ch0 (j : Int) := fun j hj => by
      rw [rd_set_ne ch i j _ (by omega)]; exact ha j hj
    have hseti : rd (ch.set i (r : Int)) (i : Int) = r := rd_set_eq ch i _ (by omega)
    obtain ⟨ch1, add1, he, hp⟩ := IH (ch.set i (r : Int)) s (by simpa using hl) (fun j hj => by
      by_cases e : j = i
      · subst e; rw [hseti]; omega
      · rw [hset j (by omega)]; exact h0 j (by omega)) (by omega)
    have hf := hp.few
    obtain ⟨ch2, add2, he2, l2, a2, m2, f2⟩ := onLoopS_ev g f i hi ch0 IH h0 m (r + 1) ch1 (s ++ add1) (by omega) hp.len (fun j hj => (hp.agr j (by omega)).trans (hset j hj)) (by rw [List.length_append]; omega)
    refine ⟨ch2, add1 ++ add2, ?_, l2, a2, fun x => ?_, by rw [List.length_append, Nat.succ_mul]; omega⟩
    · rw [← List.append_assoc]
      exact Ev.bind he he2
    · rw [List.mem_append, hp.mem, m2]
      constructor
      · rintro (⟨h1, h2, h3⟩ | ⟨h1, h2, h3, h4⟩)
        · exact ⟨h1, fun j hj => (h2 j (by omega)).trans (hset j hj), by rw [h2 i (by omega), hseti]; omega, h3⟩
        · exact ⟨h1, h2, by omega, h4⟩
      · rintro ⟨h1, h2, h3, h4⟩
        by_cases e : rd x (i : Int) = r
        · refine Or.inl ⟨h1, fun j hj => ?_, h4⟩
          by_cases e2 : j = i
          · subst e2; rw [hseti]; exact e
          · rw [hset j (by omega)]; exact h2 j (by omega)
        · exact Or.inr ⟨h1, h2, by omega, h4⟩
theorem onFS_ev {R T : List (List Int)} (g : GameOk R T) : ∀ (f i : Nat), i + f = R.length → ∀ (ch : List Int) (s : List (List Int)), ch.length = R.length → (∀ j : Nat, j < i → 0 ≤ rd ch (j : Int) ∧ rd ch (j : Int) < ((rd_L12 R (j : Int)).length : Int)) → s.length + 5 ^ f < 1000000 →
    ∃ ch' add, Ev (fun k => onF R (visS k R T) f i ch s) (ch', s ++ add) ∧ PostS R T i f ch ch' add
  | 0, i, hi, ch, s, hl, h0, hs => by
    have hch : ChOk R ch := ⟨hl, fun j hj => h0 j (by omega)⟩
    have hvis := visS_ev g hch s (by omega)
    refine ⟨ch, _, Ev.bind hvis (Ev.now _), ⟨hl, fun _ _ => rfl, fun x => ?_, by split <;> simp⟩⟩
    by_cases hc : stp R T ch = none
    · rw [if_pos hc]
      constructor
      · intro h
        have : x = ch := by simpa using h
        subst this
        exact ⟨hch, fun _ _ => rfl, hc⟩
      · rintro ⟨h1, h2, h3⟩
        have : x = ch := agree_all (n := R.length) h1.len hl (fun j hj => h2 j (by omega))
        simp [this]
    · rw [if_neg hc]
      constructor
      · intro h; simp at h
      · rintro ⟨h1, h2, h3⟩
        have : x = ch := agree_all (n := R.length) h1.len hl (fun j hj => h2 j (by omega))
        subst this
        exact absurd h3 hc
  | f + 1, i, hi, ch, s, hl, h0, hs => by
    have hrow := g.row _ (rdL_mem R i (by omega))
    have hpw : (rd_L12 R (i : Int)).length * 5 ^ f ≤ 5 ^ (f + 1) := by rw [Nat.pow_succ, Nat.mul_comm (5 ^ f)]; exact Nat.mul_le_mul_right _ hrow.2.1
    obtain ⟨ch', add, he, l2, a2, m2, f2⟩ := onLoopS_ev g f i (by omega) ch (fun c t h1 h2 h3 => onFS_ev g f (i + 1) (by omega) c t h1 h2 h3) h0 (rd_L12 R (i : Int)).length 0 ch s (by omega) hl (fun _ _ => rfl) (by omega)
    refine ⟨ch', add, he, l2, a2, fun x => ?_, by omega⟩
    rw [m2]
    exact ⟨fun h => ⟨h.1, h.2.1, h.2.2.2⟩, fun h => ⟨h.1, h.2.1, (h.1.ok i (by omega)).1, h.2.2⟩⟩
/-- Settled answers with the settled choices. -/
theorem settled_ev {R T : List (List Int)} (g : GameOk R T) : ∃ L : List (List Int), L.length < 1000000 ∧ Ev (fun k => jam_Settled.f k R T) (L, 0) ∧ ∀ x, x ∈ L ↔ (ChOk R x ∧ stp R T x = none) := by
  have h5 := g.r5
  have hp : 5 ^ R.length ≤ 5 ^ 5 := Nat.pow_le_pow_right (by omega) h5
  obtain ⟨ch', add, he, hp2⟩ := onFS_ev g R.length 0 (by omega) (List.replicate R.length 0) [] (by simp) (fun j hj => absurd hj (by omega)) (by simp; omega)
  have hf := hp2.few
  refine ⟨add, by omega, ?_, fun x => ?_⟩
  · unfold jam_Settled.f
    rw [List.nil_append] at he
    exact Ev.congr (fun k => if_pos ((readOk_iff R T).2 g)) (Ev.bind he (Ev.now _))
  · rw [hp2.mem]
    exact ⟨fun h => ⟨h.1, h.2.2⟩, fun h => ⟨h.1, fun j hj => absurd hj (by omega), h.2⟩⟩
theorem same_gen (x y : List Int) (hx : x.length < 1000000) (hl : x.length = y.length) : ∀ (m i : Nat), i + m = x.length → ∃ b, Ev (fun k => trishawlaw02_same.l0 k x y (i : Int)) b ∧ (b = true ↔ ∀ q : Nat, i ≤ q → q < x.length → rd x (q : Int) = rd y (q : Int))
  | 0, i, h => by
    refine ⟨true, Ev.step (f := fun _ => some true) (fun k => ?_) (Ev.now _), ⟨fun _ q h1 h2 => by omega, fun _ => rfl⟩⟩
    simp only [trishawlaw02_same.l0]
    rw [if_neg (by omega)]
  | m + 1, i, h => by
    by_cases he : rd x (i : Int) = rd y (i : Int)
    · obtain ⟨b, e1, e2⟩ := same_gen x y hx hl m (i + 1) (by omega)
      refine ⟨b, Ev.step (fun k => ?_) e1, e2.trans ⟨fun h q h1 h2 => ?_, fun h q h1 h2 => h q (by omega) h2⟩⟩
      · simp only [trishawlaw02_same.l0]
        rw [if_pos (by omega), if_pos (by omega), if_pos (by omega), if_pos he, wrapN i (by omega)]
      · by_cases e : q = i
        · subst e; exact he
        · exact h q (by omega) h2
    · refine ⟨false, Ev.step (f := fun _ => some false) (fun k => ?_) (Ev.now _), ⟨fun h => absurd h (by simp), fun h => absurd (h i (Nat.le_refl _) (by omega)) he⟩⟩
      simp only [trishawlaw02_same.l0]
      rw [if_pos (by omega), if_pos (by omega), if_pos (by omega), if_neg he]
theorem same_dec (x y : List Int) (hx : x.length < 1000000) (hl : x.length = y.length) : Ev (fun k => trishawlaw02_same.f k x y) (decide (x = y)) := by
  obtain ⟨b, e1, e2⟩ := same_gen x y hx hl x.length 0 (by omega)
  have hb : b = decide (x = y) := by
    rw [Bool.eq_iff_iff, e2, decide_eq_true_eq]
    exact ⟨fun h => agree_all (n := x.length) rfl hl.symm (fun j hj => h j (Nat.zero_le _) hj), fun h q _ _ => by rw [h]⟩
  rw [← hb]
  refine Ev.congr (fun k => ?_) e1
  unfold trishawlaw02_same.f
  rw [if_pos (by omega)]; rfl
end Go.Proofs.Ytjgbdicbdlollaa.B
namespace Go.Proofs.Ytjgbdicbdlollaa.B
open Go.RowKit Go.Sort Go.Proofs.YtjgbdicbdlollaaW.PrintWords Go.Proofs.YtjgbdicbdlollaaW.PrintLast Go.Proofs.YtjgbdicbdlollaaW.PrintMore
set_option linter.unusedVariables false
set_option linter.unusedSimpArgs false
set_option linter.unusedSectionVars false
/-- A sum of m terms from a on. -/
def sumA (f : Nat → Int) (a : Nat) : Nat → Int
  | 0 => 0
  | m + 1 => sumA f a m + f (a + m)
theorem sumA_cut (f : Nat → Int) (a : Nat) : ∀ m k : Nat, sumA f a (m + k) = sumA f a m + sumA f (a + m) k
  | m, 0 => by simp [sumA]
  | m, k + 1 => by
    show sumA f a (m + k) + f (a + (m + k)) = sumA f a m + (sumA f (a + m) k + f (a + m + k))
    rw [sumA_cut f a m k, Nat.add_assoc a m k]
    omega
theorem sumA_eq (f g : Nat → Int) (a b : Nat) : ∀ m : Nat, (∀ i, i < m → f (a + i) = g (b + i)) → sumA f a m = sumA g b m
  | 0, _ => rfl
  | m + 1, h => by
    show sumA f a m + f (a + m) = sumA g b m + g (b + m)
    rw [sumA_eq f g a b m (fun i hi => h i (by omega)), h m (by omega)]
/-- A turned sum is the same. -/
theorem sum_turn (f g : Nat → Int) (n b : Nat) (hn : 0 < n) (h : ∀ k, k < n → f ((k + b) % n) = g k) : sumA f 0 n = sumA g 0 n := by
  have hb : b % n < n := Nat.mod_lt _ hn
  obtain ⟨p, hp⟩ : ∃ p, b % n = p := ⟨_, rfl⟩
  rw [hp] at hb
  have h2 : ∀ k, k < n → f ((k + p) % n) = g k := fun k hk => by rw [← h k hk, ← hp, Nat.add_mod_mod]
  have e1 : sumA f 0 n = sumA f 0 p + sumA f (0 + p) (n - p) := by rw [← sumA_cut]; congr 1; omega
  have e2 : sumA g 0 n = sumA g 0 (n - p) + sumA g (0 + (n - p)) p := by rw [← sumA_cut]; congr 1; omega
  rw [e1, e2, sumA_eq f g (0 + p) 0 (n - p) (fun i hi => by
      have := h2 i (by omega)
      rw [Nat.mod_eq_of_lt (by omega)] at this
      rw [Nat.zero_add, Nat.zero_add, Nat.add_comm p i]; exact this),
    sumA_eq f g 0 (0 + (n - p)) p (fun i hi => by
      have := h2 (n - p + i) (by omega)
      rw [show n - p + i + p = i + n by omega, Nat.add_mod_right, Nat.mod_eq_of_lt (by omega)] at this
      rw [Nat.zero_add, Nat.zero_add]; exact this)]
  omega
theorem uF_sum (R : List (List Int)) (c : List Int) (k : Nat) : ∀ m, uF R c m k = sumA (fun i => bk (rte R c i) k) 0 m
  | 0 => rfl
  | m + 1 => by
    show uF R c m k + bk (rte R c m) k = sumA (fun i => bk (rte R c i) k) 0 m + bk (rte R c (0 + m)) k
    rw [uF_sum R c k m, Nat.zero_add]
theorem totF_sum (R T : List (List Int)) (c : List Int) : ∀ m, totF R T c m = sumA (fun i => cst R T c i) 0 m
  | 0 => rfl
  | m + 1 => by
    show totF R T c m + cst R T c m = sumA (fun i => cst R T c i) 0 m + cst R T c (0 + m)
    rw [totF_sum R T c m, Nat.zero_add]
/-- d is c turned by b, and all rows of routes are one. -/
structure Turn (R : List (List Int)) (b : Nat) (c d : List Int) : Prop where
  row : ∀ i j : Nat, i < R.length → j < R.length → rd_L12 R (i : Int) = rd_L12 R (j : Int)
  pos : 0 < R.length
  lc : c.length = R.length
  ld : d.length = R.length
  at_ : ∀ k : Nat, k < R.length → rd d (((k + b) % R.length : Nat) : Int) = rd c (k : Int)
section
variable {R T : List (List Int)} {b : Nat} {c d : List Int}
theorem Turn.lt (h : Turn R b c d) (k : Nat) : (k + b) % R.length < R.length := Nat.mod_lt _ h.pos
theorem Turn.rte (h : Turn R b c d) {k : Nat} (hk : k < R.length) : rte R d ((k + b) % R.length) = rte R c k := by
  unfold B.rte
  rw [h.at_ k hk, h.row _ k (h.lt k) hk]
theorem Turn.users (h : Turn R b c d) (s : Nat) : uF R d R.length s = uF R c R.length s := by
  rw [uF_sum, uF_sum]
  exact sum_turn _ _ R.length b h.pos (fun k hk => by show bk _ s = bk _ s; rw [h.rte hk])
theorem Turn.pay (h : Turn R b c d) {k : Nat} (hk : k < R.length) : ∀ m s : Nat, payS R T d ((k + b) % R.length) m s = payS R T c k m s
  | 0, _ => rfl
  | m + 1, s => by
    simp only [payS]
    rw [h.rte hk, h.users s, h.pay hk m (s + 1)]
theorem Turn.cst (h : Turn R b c d) {k : Nat} (hk : k < R.length) : cst R T d ((k + b) % R.length) = cst R T c k := h.pay hk _ _
theorem Turn.tot (h : Turn R b c d) : tot R T d = tot R T c := by
  show totF R T d R.length = totF R T c R.length
  rw [totF_sum, totF_sum]
  exact sum_turn _ _ R.length b h.pos (fun k hk => h.cst hk)
theorem mod_inj {n b k j : Nat} (hk : k < n) (hj : j < n) (h : (k + b) % n = (j + b) % n) : k = j := by
  have h1 : (k + b) % n = (k + b % n) % n := by rw [Nat.add_mod_mod]
  have h2 : (j + b) % n = (j + b % n) % n := by rw [Nat.add_mod_mod]
  rw [h1, h2] at h
  have hb : b % n < n := Nat.mod_lt _ (by omega)
  obtain ⟨p, hp⟩ : ∃ p, b % n = p := ⟨_, rfl⟩
  rw [hp] at h hb
  by_cases h3 : k + p < n
  · by_cases h4 : j + p < n
    · rw [Nat.mod_eq_of_lt h3, Nat.mod_eq_of_lt h4] at h; omega
    · rw [Nat.mod_eq_of_lt h3, Nat.mod_eq_sub_mod (by omega), Nat.mod_eq_of_lt (by omega)] at h; omega
  · by_cases h4 : j + p < n
    · rw [Nat.mod_eq_of_lt h4, Nat.mod_eq_sub_mod (by omega), Nat.mod_eq_of_lt (by omega)] at h; omega
    · rw [Nat.mod_eq_sub_mod (by omega), Nat.mod_eq_of_lt (by omega : k + p - n < n), Nat.mod_eq_sub_mod (by omega), Nat.mod_eq_of_lt (by omega : j + p - n < n)] at h; omega
theorem mod_onto {n b j : Nat} (hj : j < n) : ∃ k, k < n ∧ (k + b) % n = j := by
  have hb : b % n < n := Nat.mod_lt _ (by omega)
  obtain ⟨p, hp⟩ : ∃ p, b % n = p := ⟨_, rfl⟩
  rw [hp] at hb
  by_cases h : p ≤ j
  · refine ⟨j - p, by omega, ?_⟩
    rw [← Nat.add_mod_mod, hp, show j - p + p = j by omega, Nat.mod_eq_of_lt hj]
  · refine ⟨j + n - p, by omega, ?_⟩
    rw [← Nat.add_mod_mod, hp, show j + n - p + p = j + n by omega, Nat.add_mod_right, Nat.mod_eq_of_lt hj]
theorem Turn.set (h : Turn R b c d) {k : Nat} (hk : k < R.length) (v : Int) : Turn R b (c.set k v) (d.set ((k + b) % R.length) v) := by
  have hl := h.lc
  have hd := h.ld
  have hlt := h.lt k
  refine ⟨h.row, h.pos, by simpa using h.lc, by simpa using h.ld, fun j hj => ?_⟩
  by_cases e : j = k
  · subst e
    rw [rd_set_eq _ _ _ (by omega), rd_set_eq _ _ _ (by omega)]
  · rw [rd_set_ne _ _ _ _ (fun e2 => e (mod_inj hj hk e2)), rd_set_ne _ _ _ _ e, h.at_ j hj]
theorem scan_none (i : Nat) : ∀ (m r : Nat) (l : Int), (∀ q : Nat, r ≤ q → q < r + m → l ≤ B.cst R T (c.set i (q : Int)) i) → scan R T c i m r none l = none
  | 0, _, _, _ => rfl
  | m + 1, r, l, h => by
    simp only [scan]
    rw [if_neg (by have := h r (by omega) (by omega); omega)]
    exact scan_none i m (r + 1) l (fun q h1 h2 => h q (by omega) (by omega))
theorem scan_keeps (i : Nat) : ∀ (m r : Nat) (o : Option Nat) (l : Int), o ≠ none → scan R T c i m r o l ≠ none
  | 0, _, _, _, h => h
  | m + 1, r, o, l, h => by
    simp only [scan]
    split
    · exact scan_keeps i m (r + 1) _ _ (by simp)
    · exact scan_keeps i m (r + 1) _ _ h
theorem scan_none_iff (i : Nat) : ∀ (m r : Nat) (l : Int), scan R T c i m r none l = none → ∀ q : Nat, r ≤ q → q < r + m → l ≤ B.cst R T (c.set i (q : Int)) i
  | 0, _, _, _, q, h1, h2 => by omega
  | m + 1, r, l, h, q, h1, h2 => by
    simp only [scan] at h
    split at h
    · exact absurd h (scan_keeps i m (r + 1) _ _ (by simp))
    · by_cases e : q = r
      · subst e; omega
      · exact scan_none_iff i m (r + 1) l h q (by omega) (by omega)
theorem stp_none (hR : 0 < R.length) : stp R T c = none ↔ ∀ i : Nat, i < R.length → ∀ q : Nat, q < (rd_L12 R (i : Int)).length → B.cst R T c i ≤ B.cst R T (c.set i (q : Int)) i := by
  have gen : ∀ (m i : Nat), i + m = R.length → (stepF R T c m i = none ↔ ∀ j : Nat, i ≤ j → j < R.length → moveF R T c j = none) := by
    intro m
    induction m with
    | zero => intro i hi; exact ⟨fun _ j h1 h2 => by omega, fun _ => rfl⟩
    | succ m ih =>
      intro i hi
      simp only [stepF]
      cases hm : moveF R T c i with
      | some r => exact ⟨fun h => by simp at h, fun h => by rw [h i (by omega) (by omega)] at hm; simp at hm⟩
      | none =>
        show stepF R T c m (i + 1) = none ↔ _
        rw [ih (i + 1) (by omega)]
        exact ⟨fun h j h1 h2 => if e : j = i then by rw [e]; exact hm else h j (by omega) h2, fun h j h1 h2 => h j (by omega) h2⟩
  rw [show stp R T c = stepF R T c R.length 0 from rfl, gen R.length 0 (by omega)]
  constructor
  · intro h i hi q hq
    exact scan_none_iff i _ 0 _ (h i (by omega) hi) q (by omega) (by omega)
  · intro h i _ hi
    exact scan_none i _ 0 _ (fun q _ h2 => h i hi q (by omega))
theorem Turn.stp (h : Turn R b c d) (hs : stp R T c = none) : B.stp R T d = none := by
  rw [stp_none h.pos] at hs ⊢
  intro i hi q hq
  obtain ⟨k, hk, rfl⟩ := mod_onto (b := b) hi
  rw [h.cst hk, (h.set hk (q : Int)).cst hk]
  exact hs k hk q (by rw [h.row k _ hk hi]; exact hq)
theorem Turn.ok (h : Turn R b c d) (hc : ChOk R c) : ChOk R d := by
  refine ⟨h.ld, fun i hi => ?_⟩
  obtain ⟨k, hk, rfl⟩ := mod_onto (b := b) hi
  rw [h.at_ k hk, h.row _ k hi hk]
  exact hc.ok k hk
end
end Go.Proofs.Ytjgbdicbdlollaa.B
namespace Go.Proofs.Ytjgbdicbdlollaa.B
open Go.RowKit Go.Proofs.YtjgbdicbdlollaaW.PrintWords Go.Proofs.YtjgbdicbdlollaaW.PrintLast Go.Proofs.YtjgbdicbdlollaaW.PrintMore
set_option linter.unusedVariables false
set_option linter.unusedSimpArgs false
def choices.T7 : Bool × List (List Nat × List Nat) := (true, [([], []), ([], []), ([], []), ([], []), ([3], [3]), ([], []), ([5], [5]), ([2, 4, 6], [2, 4, 6]), ([], []), ([8], [8]), ([7, 9], [7, 9]), ([1, 10, 10], [1, 10]), ([0, 11, 11], [0, 11]), ([12, 12, 0, 1, 2, 3, 4, 5, 6, 7, 8, 9, 10, 11, 12], [0, 12])])
def choices.B7 : List Nat := [0, 0, 0, 0, 8, 0, 32, 124, 0, 256, 1020, 2046, 4095, 8191]
theorem choices.tab7 : rtab .any (opsOf Try.f68 7) = choices.T7 := by kernel_rfl
theorem choices.bits7 : waitsOk choices.T7.2 choices.B7 = true := by kernel_rfl
end Go.Proofs.Ytjgbdicbdlollaa.B
namespace Go.Proofs.Ytjgbdicbdlollaa.B
open Go.RowKit Go.Sort Go.Proofs.YtjgbdicbdlollaaW.PrintWords Go.Proofs.YtjgbdicbdlollaaW.PrintLast Go.Proofs.YtjgbdicbdlollaaW.PrintMore
set_option linter.unusedVariables false
set_option linter.unusedSimpArgs false
set_option linter.unusedSectionVars false
/-- c turned by b: the first k numbers are laid. -/
def tn (n b : Nat) (c : List Int) : Nat → List Int
  | 0 => List.replicate n 0
  | k + 1 => (tn n b c k).set ((k + b) % n) (rd c (k : Int))
theorem tn_len (n b : Nat) (c : List Int) : ∀ k, (tn n b c k).length = n
  | 0 => by simp [tn]
  | k + 1 => by simp [tn, tn_len n b c k]
theorem tn_at (n b : Nat) (c : List Int) : ∀ j : Nat, j ≤ n → ∀ k : Nat, k < j → rd (tn n b c j) (((k + b) % n : Nat) : Int) = rd c (k : Int)
  | 0, _, k, hk => by omega
  | j + 1, hj, k, hk => by
    show rd ((tn n b c j).set ((j + b) % n) (rd c (j : Int))) _ = _
    by_cases e : k = j
    · subst e
      exact rd_set_eq _ _ _ (by rw [tn_len]; exact Nat.mod_lt _ (by omega))
    · rw [rd_set_ne _ _ _ _ (fun e2 => e (mod_inj (by omega) (by omega) e2))]
      exact tn_at n b c j (by omega) k (by omega)
theorem sameR_rd (R : List (List Int)) (i : Nat) (h : i < (sameR R).length) : rd_L12 (sameR R) (i : Int) = rd_L12 R 0 := by
  rw [rdL _ i h]
  simp [sameR]
theorem tn_turn {R : List (List Int)} {c : List Int} (b : Nat) (hp : 0 < R.length) (hc : c.length = R.length) : Turn (sameR R) b c (tn R.length b c R.length) := by
  have hl := sameR_len R
  refine ⟨fun i j hi hj => by rw [sameR_rd R i hi, sameR_rd R j hj], by omega, by omega, by rw [tn_len, hl], fun k hk => ?_⟩
  rw [hl] at hk ⊢
  exact tn_at _ _ _ _ (Nat.le_refl _) k hk
section
variable {R T : List (List Int)} (g : GameOk (sameR R) T) {L : List (List Int)} (hL : L.length < 1000000) (mL : ∀ x, x ∈ L ↔ (ChOk (sameR R) x ∧ stp (sameR R) T x = none)) (b : Nat) (hb : b < 256)
include g hL mL hb
theorem smE_l2 {i : Nat} (hi : i < L.length) {d : List Int} (hd : ChOk (sameR R) d) (ht : tot (sameR R) T d = tot (sameR R) T (rd_L12 L (i : Int)))
    (hn : Ev (fun k => trishawlaw02_JamSame.l0 k (b : Int) L (R.length : Int) ((i + 1 : Nat) : Int) (sameR R) T) true) : ∀ (m q : Nat) (inn : Bool), q + m = L.length →
    (inn = true ∨ ∃ p : Nat, q ≤ p ∧ p < L.length ∧ rd_L12 L (p : Int) = d) → Ev (fun k => trishawlaw02_JamSame.l2 k (b : Int) L (R.length : Int) (i : Int) d inn (q : Int) (sameR R) T) true
  | 0, q, inn, hq, h => by
    have hin : inn = true := by
      rcases h with h | ⟨p, h1, h2, _⟩
      · exact h
      · omega
    subst hin
    have hx := (mL _).1 (rdL_mem L i hi)
    have e1 := jcosts_ev g hx.1
    have e2 := jcosts_ev g hd
    refine Ev.step (fun k => by simp only [trishawlaw02_JamSame.l2]; rw [if_neg (by omega), if_pos (by omega), if_pos (by omega)]) (Ev.bind e1 (Ev.bind e2 (Ev.congr (fun k => ?_) hn)))
    simp only
    rw [if_pos trivial, if_pos trivial, if_pos trivial, if_pos ht.symm, wrapN i (by omega)]
  | m + 1, q, inn, hq, h => by
    have hx := (mL _).1 (rdL_mem L q (by omega))
    cases hinn : inn with
    | true =>
      have ih := smE_l2 hi hd ht hn m (q + 1) true (by omega) (Or.inl rfl)
      refine Ev.step (fun k => ?_) ih
      simp only [trishawlaw02_JamSame.l2]
      rw [if_pos (by omega), if_pos trivial, wrapN q (by omega)]
    | false =>
      have hsd := same_dec (rd_L12 L (q : Int)) d (by have := hx.1.len; have := g.r5; omega) (by rw [hx.1.len, hd.len])
      have ih := smE_l2 hi hd ht hn m (q + 1) (decide (rd_L12 L (q : Int) = d)) (by omega) (by
        rcases h with h | ⟨p, h1, h2, h3⟩
        · rw [hinn] at h; exact absurd h (by simp)
        · by_cases e : p = q
          · subst e; exact Or.inl (decide_eq_true h3)
          · exact Or.inr ⟨p, by omega, h2, h3⟩)
      refine Ev.step (fun k => by simp only [trishawlaw02_JamSame.l2]; rw [if_pos (by omega), if_neg (by simp), if_pos (by omega)]) (Ev.bind hsd (Ev.congr (fun k => ?_) ih))
      rw [wrapN q (by omega)]
theorem smE_l1 (hr20 : R.length ≤ 20) {i : Nat} (hi : i < L.length) (hn : Ev (fun k => trishawlaw02_JamSame.l2 k (b : Int) L (R.length : Int) (i : Int) (tn R.length b (rd_L12 L (i : Int)) R.length) false 0 (sameR R) T) true) : ∀ (m j : Nat), j + m = R.length →
    Ev (fun k => trishawlaw02_JamSame.l1 k (b : Int) L (R.length : Int) (i : Int) (tn R.length b (rd_L12 L (i : Int)) j) (j : Int) (sameR R) T) true
  | 0, j, hj => by
    obtain rfl : j = R.length := by omega
    refine Ev.step (fun k => ?_) hn
    simp only [trishawlaw02_JamSame.l1]
    rw [if_neg (by omega)]
  | m + 1, j, hj => by
    have ih := smE_l1 hr20 hi hn m (j + 1) (by omega)
    have hx := ((mL _).1 (rdL_mem L i hi)).1.len
    rw [sameR_len] at hx
    have hm : (j + b) % R.length < R.length := Nat.mod_lt _ (by omega)
    have e : Int.tmod (wrap64 ((j : Int) + wrap64 (b : Int))) (R.length : Int) = (((j + b) % R.length : Nat) : Int) := by
      rw [show wrap64 (b : Int) = (b : Int) by unfold wrap64; omega, show wrap64 ((j : Int) + (b : Int)) = ((j + b : Nat) : Int) by unfold wrap64; omega]
      rw [Int.tmod_eq_emod_of_nonneg (by omega)]
      exact (Int.natCast_emod _ _).symm
    have hlen : (((j + b) % R.length : Nat) : Int) < ((tn R.length b (rd_L12 L (i : Int)) j).length : Int) := by rw [tn_len]; omega
    refine Ev.step (fun k => ?_) ih
    simp only [trishawlaw02_JamSame.l1]
    rw [e, if_pos (by omega), if_neg (by omega), if_pos (by omega), if_pos (by omega), if_pos (by omega), if_pos (by omega), if_pos (by omega), if_pos hlen, wrapN j (by omega), Int.toNat_natCast]
    rfl
theorem smE_l0 (hr20 : R.length ≤ 20) : ∀ (m i : Nat), i + m = L.length → Ev (fun k => trishawlaw02_JamSame.l0 k (b : Int) L (R.length : Int) (i : Int) (sameR R) T) true
  | 0, i, hi => by
    refine Ev.step (fun k => ?_) alive_ev2
    simp only [trishawlaw02_JamSame.l0]
    rw [if_neg (by omega)]
  | m + 1, i, hi => by
    have ih := smE_l0 hr20 m (i + 1) (by omega)
    have hx := (mL _).1 (rdL_mem L i (by omega))
    have hxl := hx.1.len
    have r1 := g.r1
    rw [sameR_len] at hxl r1
    have hT := tn_turn (R := R) b (by omega) hxl
    have hd := hT.ok hx.1
    have hdL := (mL _).2 ⟨hd, hT.stp hx.2⟩
    have h2 := smE_l2 g hL mL b hb (i := i) (by omega) hd hT.tot ih L.length 0 false (by omega) (Or.inr (by
      obtain ⟨p, hp, hp2⟩ := List.mem_iff_getElem.1 hdL
      exact ⟨p, Nat.zero_le _, hp, by rw [rdL L p hp]; exact hp2⟩))
    have h1 := smE_l1 g hL mL b hb hr20 (i := i) (by omega) h2 R.length 0 (by omega)
    refine Ev.step (fun k => ?_) h1
    simp only [trishawlaw02_JamSame.l0]
    rw [if_pos (by omega), if_pos (by omega), if_pos (by omega), if_pos (by omega), if_pos (by omega), Int.toNat_natCast]
    rfl
end
theorem smE_j0 (R T : List (List Int)) (b : Nat) (hb : b < 256) (hr20 : R.length ≤ 20) : Ev (fun k => trishawlaw02_JamSame.j0 k (b : Int) false R T) true := by
  obtain ⟨bg, eg, hg⟩ := isGame_ev (sameR R) T
  refine Ev.step (fun k => by simp only [trishawlaw02_JamSame.j0]; rw [if_neg (by simp), if_pos (by omega)]) (Ev.bind eg ?_)
  cases bg with
  | false => exact Ev.congr (fun k => if_neg (by simp)) alive_ev2
  | true =>
    have g := hg.1 rfl
    obtain ⟨L, hL, eL, mL⟩ := settled_ev g
    have eL2 : Ev (fun k => jam_SettledS.f k (sameR R) T) (L, 0) := eL
    refine Ev.congr (fun k => if_pos rfl) (Ev.bind eL2 (Ev.congr (fun k => ?_) (smE_l0 g hL mL b hb hr20 L.length 0 (by omega))))
    simp only
    rw [if_pos trivial]
    rfl
theorem smE_all (R T : List (List Int)) (a : Int) (h0 : 0 ≤ a) (h1 : a ≤ 255) : Ev (fun k => trishawlaw02_JamSame.f k R T a) true := by
  obtain ⟨b, rfl⟩ : ∃ b : Nat, a = (b : Int) := ⟨a.toNat, by omega⟩
  obtain ⟨f, ef, hf⟩ := few_ev R T []
  have hj : Ev (fun k => trishawlaw02_JamSame.j0 k (b : Int) true R T) true := by
    refine Ev.step (fun k => ?_) alive_ev2
    simp only [trishawlaw02_JamSame.j0]
    rw [if_pos trivial]
  show Ev (fun k => (trishawlaw02_few.f k R T []).bind fun t102 => _) true
  refine Ev.bind ef ?_
  cases f with
  | false => exact Ev.congr (fun k => if_neg (by simp)) hj
  | true =>
    refine Ev.congr (fun k => if_pos rfl) ?_
    have hF := hf.1 rfl
    cases h : ((R.length : Int) == 0) with
    | true => exact hj
    | false => exact smE_j0 R T b (by omega) hF.r
end Go.Proofs.Ytjgbdicbdlollaa.B
namespace Go.Proofs.Ytjgbdicbdlollaa.Pure
open Go.RowKit Go.Proofs.Ytjgbdicbdlollaa.B Go.Proofs.YtjgbdicbdlollaaW.PrintWords Go.Proofs.YtjgbdicbdlollaaW.PrintLast Go.Proofs.YtjgbdicbdlollaaW.PrintMore
theorem JamSame : trishawlaw02_JamSame.Pure := fun R T a _ _ ha => (smE_all R T a (bounds_u8 ha).1 (bounds_u8 ha).2).rounds
end Go.Proofs.Ytjgbdicbdlollaa.Pure
