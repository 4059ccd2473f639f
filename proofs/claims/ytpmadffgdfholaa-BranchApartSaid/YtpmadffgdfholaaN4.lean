/- Texts behind the row of BranchApart, part 4: contracts of the functions it reaches, words that their walks use, and lemmas in plain Lean. -/
import Derived.Below
import Derived.Deep.Draws
import Derived.Deep.AppendLies
import Derived.Maps.AppendAt
import Derived.OwnWalk
import Derived.Laws.BytesArg
import Derived.Laws.MakeOwn
import Derived.Laws.OwnMore
import Derived.Deep.OwnRows
import Derived.Tactics
import Derived.Lib.ConvBytes
import Derived.Laws.Slices
import Derived.WalkKit
import Derived.KernelRfl
import Derived.RowKit3
import Derived.Deep.LoopGhost
import Derived.Deep.QuietTactic
import Derived.BigQuiet
import Derived.WideLaws
import Derived.Deep.DeepCutAuto
import Derived.Deep.CutBlock
import Derived.Deep.RegionHeld3
import Derived.Laws.Rows
import Derived.Lib.AppendStr
import Derived.ArgAppend
import Derived.Laws.IdiomCopy
import Derived.RowKit
import Derived.OrdersHeld
import Derived.Laws.BitsLemmas
import Derived.Test.YtpmadffgdfholaaProg
import Derived.Laws.StructEq
import Derived.MapKept
import Derived.WalkSpells
import Derived.Deep.DrawnRows
import Derived.Maps.RangeWalk
import Derived.Laws.EntriesVeiled
import Derived.Shelf.SlSortCmp.NoneTotal
import Derived.Shelf.SortM.Plain
import Derived.Shelf.Lay
import Derived.Ground.SlsfProg
import Derived.Ground.SlgmProg
import Derived.Shelf.SlicesG.Cmp
import Derived.Ground.SlgcProg
import Derived.Test.YtpmadffgdfholaaN1
import Derived.Test.YtpmadffgdfholaaN2
import Derived.Test.YtpmadffgdfholaaN3
namespace Go.Proofs.Ytpmadffgdfholaa.B
open Go.RowKit Go.MapKept Go.Proofs.YtpmadffgdfholaaW.PrintWords Go.Proofs.YtpmadffgdfholaaW.PrintLast Go.Proofs.YtpmadffgdfholaaW.PrintMore
set_option linter.unusedVariables false
set_option linter.unusedSimpArgs false
attribute [local go_sem ↓] Go.wp_at_zero Go.wp_at_succ
/-- Is a street passed over? -/
def skipW (inn : Int) (x : S30) (b : Bool) : Option Bool :=
  if b = true then some true else if 0 ≤ x.f0 then (if Go.bits .and .i64 (shr .i64 inn x.f0) 1 = 0 then some true else if 0 ≤ x.f1 then some (Go.bits .and .i64 (shr .i64 inn x.f1) 1 == 1) else none) else none
/-- The street that a round of tree takes. -/
def treeIn (k : Nat) (n : Int) (l : List S30) (many inn : Int) (gone : Int → Bool) : Nat → Nat → Option (Option Nat)
  | 0, _ => some none
  | c + 1, i => (skipW inn (rd_T30 l (i : Int)) (gone (i : Int))).bind fun sk => if sk = true then treeIn k n l many inn gone c (i + 1) else
      (branch_town_narrow.f k n l (fun j => some (decide (j = (i : Int)) || gone j))).bind fun lt => if lt.1 ≥ many then some (some i) else treeIn k n l many inn gone c (i + 1)
def treeOut (k : Nat) (n : Int) (l : List S30) (many : Int) : Nat → Int → List Int → (Int → Bool) → Option (List Int × (Int → Bool))
  | 0, _, _, _ => none
  | c + 1, inn, out, gone => (branch_town_everybody.f n l).bind fun ev => if inn = ev then some (out, gone) else (treeIn k n l many inn gone l.length 0).bind fun o => match o with
      | none => treeOut k n l many c inn out gone
      | some i => if 0 ≤ (rd_T30 l (i : Int)).f1 then (if out.length < 1000000 then treeOut k n l many c (Go.bits .or .i64 inn (shl .i64 1 (rd_T30 l (i : Int)).f1)) (out ++ [(i : Int)]) (fun j => decide (j = (i : Int)) || gone j) else none) else none
def branch_town_tree.f (k : Nat) (n : Int) (l : List S30) (gone : Int → Bool) (many : Int) : Option (List Int × (Int → Bool)) :=
  if l.length < 1000000 then (treeOut k n l many k 1 [] gone).bind fun og => if og.1 = [] then none else if og.1.length < 2000000 then some (sortI og.1, og.2) else none else none
theorem KB.low {g : Nat} {w w1 w2 : World} (h : KB g w w1) (hb : Below w.heap.size w1 w2) (hs : w.heap.size ≤ w2.heap.size) : KB g w w2 :=
  ⟨hb.os.trans h.os, hb.tape.trans h.tape, hb.output.trans h.output, hs, fun i hi hg _ => (hb.block i hi).trans (h.keep.2 i hi hg (by simp))⟩
theorem KB.map {g : Nat} {w w1 w2 : World} (h : KB g w w1) (hg : w1.grownBy w2 (some g)) : KB g w w2 :=
  ⟨hg.os.trans h.os, hg.tape.trans h.tape, hg.output.trans h.output, Nat.le_trans h.keep.1 hg.size, fun i hi hne _ => (hg.block i (Nat.lt_of_lt_of_le hi h.keep.1) (fun e => hne (by injection e))).trans (h.keep.2 i hi hne (by simp))⟩
theorem below_alloc_at {b : Nat} {w W : World} (h : Below b w W) (hb : b ≤ W.heap.size) (o : Obj) : Below b w (W.alloc o) := by
  have k := below_alloc (Below.refl W.heap.size W) o
  exact ⟨k.os.trans h.os, k.tape.trans h.tape, k.output.trans h.output, Nat.le_trans h.size k.size, fun i hi => (k.block i (Nat.lt_of_lt_of_le hi hb)).trans (h.block i hi)⟩
theorem undo_gone {i : Int} {gone : Int → Bool} (h : gone i = false) : (fun j => !decide (j = i) && (decide (j = i) || gone j)) = gone := by
  funext j
  by_cases e : j = i
  · subst e; simp [h]
  · simp [e]
/-- What a walk of tree knows of its world. -/
structure TEnv (w W : World) (m : Nat) (vl : Value) (out : List Int) (gone : Int → Bool) : Prop where
  kb : KB m w W
  hM : SetM W m gone
  hL : Kd.R (Kd.int .i64) 3 W w.heap.size (fun _ => True) vl out
theorem TEnv.below {w W W2 : World} {m : Nat} {vl : Value} {out : List Int} {gone : Int → Bool} (h : TEnv w W m vl out gone) (hb : Below W.heap.size W W2) : TEnv w W2 m vl out gone :=
  ⟨h.kb.step hb, h.hM.below hb, Kd.R_below h.hL hb⟩
theorem TEnv.upd {w W W2 : World} {m : Nat} {vl : Value} {out : List Int} {gone gone2 : Int → Bool} (h : TEnv w W m vl out gone) (hM2 : SetM W2 m gone2) (hg : W.grownBy W2 (some m)) : TEnv w W2 m vl out gone2 :=
  ⟨h.kb.map hg, hM2, Kd.R_map h.hL h.hM hg⟩
theorem TEnv.app {w W W2 : World} {m : Nat} {vl v2 : Value} {out out2 : List Int} {gone : Int → Bool} (h : TEnv w W m vl out gone) (hb : Below w.heap.size W W2) (hs : W.heap.size ≤ W2.heap.size) (hg : W.grownBy W2 vl.ownBlock) (hL : Kd.R (Kd.int .i64) 3 W2 w.heap.size (fun _ => True) v2 out2) : TEnv w W2 m v2 out2 gone :=
  ⟨h.kb.low hb (Nat.le_trans h.kb.keep.1 hs), h.hM.row h.hL hg, hL⟩
theorem SetM.blk_map {w W : World} {m g : Nat} {gone : Int → Bool} {cs : Array Value} {t : TypeId} {fr : Nat × Nat} (hM : SetM w m gone) (h : w.heap[g]? = some (.cells cs t fr)) (hk : KB m w W) : W.heap[g]? = some (.cells cs t fr) :=
  (hk.keep.2 g (blk_lt h) (fun e => hM.ne_cells h e.symm) (by simp)).trans h
theorem TEnv.below_own {w W W2 : World} {m : Nat} {vl : Value} {out : List Int} {gone : Int → Bool} (h : TEnv w W m vl out gone) (hg : W.grownBy W2 vl.ownBlock) : Below w.heap.size W W2 := by
  obtain ⟨inner, ho⟩ := Kd.R_own h.hL
  exact (Below.refl _ _).grown hg h.kb.keep.1 (own_base ho)
set_option maxHeartbeats 8000000 in
set_option maxRecDepth 100000 in
theorem branch_town_tree.calls (k : Nat) (g0 : Nat) (n : Int) (A : Option Addr) (c : Nat) (l : List S30) (mr : Option Nat) (m : Nat) (gone gone' : Int → Bool) (many : Int) (r : List Int) (w : World) (hP0 : w.heap[g0]? = some (.cells #[.int .i64 n, .slice A l.length c, .map mr] 70 (0, 0))) (hr : ∀ W', KeepBut w W' m none → Kd.C k30 W' A l.length l) (hc : l.length ≤ c) (hM : SetM w m gone) (h : branch_town_tree.f k n l gone many = some (r, gone')) :
  Calls Try.prog 64 #[.pointer (some ⟨g0, 0, none⟩), .map (some m), .int .i64 many] w fun e w' => ∃ v0_ : Value, e = .returned v0_ ∧ Kd.R (Kd.int .i64) 3 w' w.heap.size (fun _ => True) v0_ r ∧ SetM w' m gone' ∧ KB m w w' := by
 have hu30 := Try.underlying30
 have hu65 := Try.underlying65
 have HP0 := Aside0.mk hP0
 have HR := Aside0.mk hr
 have HC := Aside0.mk hc
 have HM0 := Aside0.mk hM
 have FE := Aside0.mk (show TEnv w w m (.slice none 0 0) [] gone from ⟨KB.refl _ _, hM, Kd.R_nil _ _ _ _ _⟩)
 clear hP0 hr hc hM
 unfold branch_town_tree.f at h
 split at h
 case isFalse => exact absurd h (by simp)
 rename_i hlen
 have HLEN := Aside0.mk hlen
 clear hlen
 obtain ⟨⟨og, gg⟩, hog, h⟩ := Option.bind_eq_some_iff.1 h
 simp only at h
 by_cases hne : og = []
 case pos => rw [if_pos hne] at h; exact absurd h (by simp)
 rw [if_neg hne] at h
 by_cases hll : og.length < 2000000
 case neg => rw [if_neg hll] at h; exact absurd h (by simp)
 rw [if_pos hll] at h
 have HLL := Aside0.mk hll
 clear hll
 simp only [Option.some.injEq, Prod.mk.injEq] at h
 obtain ⟨rfl, rfl⟩ := h
 have HNE := Aside0.mk hne
 have H0 := Aside0.mk hog
 clear hne hog
 go_enter Try.func64, Try.ntmps64
 go_wp2
 go_loopg [7, 8] k (fun kq v7 v8 w' => ∃ (inn : Int) (out : List Int) (gn : Int → Bool), v8 = .int .i64 inn ∧ Aside0 (treeOut k n l many kq inn out gn = some (og, gg)) ∧ Aside0 (TEnv w w' m v7 out gn))
 case atStart => exact ⟨1, [], gone, rfl, ⟨H0.out⟩, FE⟩
 case round =>
  clear H0 FE
  obtain ⟨inn, out, gn, rfl, HH, FE⟩ := hrel
  cases gk with
  | zero => exact absurd HH.out (by simp [treeOut])
  | succ k1 =>
   have hh := HH.out
   rw [treeOut] at hh
   obtain ⟨ev, hev, hh⟩ := Option.bind_eq_some_iff.1 hh
   have HEV := Aside0.mk hev
   clear hev HH
   by_cases t0 : inn = ev
   ·rw [if_pos t0] at hh
    have s0 : (inn == ev) = true := beq_iff_eq.mpr t0
    have s0b : (inn != ev) = false := bne_eq_false_iff_eq.mpr t0
    have s0c : decide (inn = ev) = true := decide_eq_true t0
    clear t0
    simp only [Option.some.injEq, Prod.mk.injEq] at hh
    obtain ⟨rfl, rfl⟩ := hh
    obtain ⟨Al, cl, hvl⟩ := Kd.R_slice FE.out.hL
    subst hvl
    go_wp2_with (first | (go_at_call 74; (refine (branch_town_everybody.calls g0 n A c l mr ev _ (HM0.out.blk_map HP0.out FE.out.kb) (HR.out _ FE.out.kb.keep) HC.out HEV.out).mono ?_); rintro e w5 ⟨rfl, ⟨nd, hw5⟩⟩; have hb5 : Below wr.heap.size wr w5 := (by rw [hw5]; exact pw_below_drewN (Below.refl _ _) nd); have n0_ := Aside0.mk (FE.out.below hb5); clear FE hw5 hb5; have FE := n0_; clear n0_) | (go_at_call 75; (refine (sort_calls Al cl out w.heap.size _ FE.out.hL HNE.out HLL.out).mono ?_); rintro e w6 ⟨rfl, ho, hg⟩; have n0_ := Aside0.mk (FE.out.app (FE.out.below_own hg) hg.size hg ho); clear FE ho hg; have FE := n0_; clear n0_))
    go_ret
    exact ⟨_, rfl, FE.out.hL, FE.out.hM, FE.out.kb⟩
   ·rw [if_neg t0] at hh
    have s0 : (inn == ev) = false := beq_eq_false_iff_ne.mpr t0
    have s0b : (inn != ev) = true := bne_iff_ne.mpr t0
    have s0c : decide (inn = ev) = false := decide_eq_false t0
    clear t0
    obtain ⟨o, ho, hh⟩ := Option.bind_eq_some_iff.1 hh
    have HO := Aside0.mk ho
    have HH := Aside0.mk hh
    clear ho hh
    obtain ⟨Al, cl, hvl⟩ := Kd.R_slice FE.out.hL
    subst hvl
    go_wp2_with (first | (go_at_call 74; (refine (branch_town_everybody.calls g0 n A c l mr ev _ (HM0.out.blk_map HP0.out FE.out.kb) (HR.out _ FE.out.kb.keep) HC.out HEV.out).mono ?_); rintro e w5 ⟨rfl, ⟨nd, hw5⟩⟩; have hb5 : Below wr.heap.size wr w5 := (by rw [hw5]; exact pw_below_drewN (Below.refl _ _) nd); have n0_ := Aside0.mk (FE.out.below hb5); clear FE hw5 hb5; have FE := n0_; clear n0_; have hp_1 := (blk_cell (HM0.out.blk_map HP0.out FE.out.kb) 1).trans rfl))
    go_loopg [7, 8, 22] l.length (fun kq v7 v8 v22 w' => ∃ (i : Nat), v7 = .slice Al out.length cl ∧ v8 = .int .i64 inn ∧ v22 = .int .i64 (i : Int) ∧ Aside0 (i + kq = l.length) ∧ Aside0 (treeIn k n l many inn gn kq i = some o) ∧ Aside0 (TEnv w w' m (.slice Al out.length cl) out gn))
    case atStart => exact ⟨0, rfl, rfl, rfl, ⟨by simp⟩, ⟨HO.out⟩, FE⟩
    case round =>
     clear HO FE
     obtain ⟨i, rfl, rfl, rfl, HI, HQ, FE⟩ := hrel
     cases gk with
     | zero =>
      have hi := HI.out
      have c4b : decide ((i : Int) < (l.length : Int)) = false := decide_eq_false (by omega)
      have c4b2 : decide (i < l.length) = false := decide_eq_false (by omega)
      have hq := HQ.out
      simp only [treeIn, Option.some.injEq] at hq
      subst hq
      clear hi
      go_wp2
      go_roundg k1
      case measure => omega
      case rel => exact ⟨inn, out, gn, rfl, ⟨HH.out⟩, FE⟩
     | succ k2 =>
      have hi0 : (0 : Int) ≤ (i : Int) := Int.natCast_nonneg _
      have hi1 : (i : Int) < (l.length : Int) := by have := HI.out; omega
      have c4b : decide ((i : Int) < (l.length : Int)) = true := decide_eq_true hi1
      have hi2 : i < l.length := by omega
      have c4b2 : decide (i < l.length) = true := decide_eq_true hi2
      have hq := HQ.out
      unfold treeIn at hq
      obtain ⟨ad, e, hx_0, hx_1, hx_2⟩ := at_T30 (HR.out _ FE.out.kb.keep) (i : Int) hi0 hi1
      cases e
      obtain ⟨x, hx⟩ : ∃ x, rd_T30 l (i : Int) = x := ⟨_, rfl⟩
      rw [hx] at hx_0 hx_1 hx_2 hq
      have HX := Aside0.mk hx
      clear hx HQ
      simp only [Int.toNat_natCast] at hx_0 hx_1 hx_2
      replace hi0 := eq_true hi0
      replace hi1 := eq_true hi1
      replace hi2 := eq_true hi2
      obtain ⟨sk, hsk, hq⟩ := Option.bind_eq_some_iff.1 hq
      have HSK := Aside0.mk hsk
      have HQ := Aside0.mk hq
      clear hsk hq
      go_upto_region 7 with (fail)
      (try simp only [Act.put, List.setIfInBounds_toArray, List.set_cons_zero, List.set_cons_succ])
      obtain ⟨gb, hgb⟩ : ∃ gb, wr.heap.size = gb := ⟨_, rfl⟩
      rw [hgb]
      obtain ⟨wq, hwq⟩ : ∃ wq, wr.alloc (.cells #[.int .i64 x.f0, .int .i64 x.f1, .int .i64 x.f2] 30) = wq := ⟨_, rfl⟩
      rw [hwq]
      have n0_ : Below wr.heap.size wr wq := hwq ▸ below_alloc (Below.refl _ _) _
      have BK := Aside0.mk (hgb ▸ hwq ▸ heap_alloc_new wr _ : wq.heap[gb]? = some (.cells #[.int .i64 x.f0, .int .i64 x.f1, .int .i64 x.f2] 30 (0, 0)))
      have n1_ := Aside0.mk (FE.out.below n0_)
      clear FE hx_0 hx_1 hx_2 n0_ hgb hwq
      have FE := n1_
      clear n1_
      have hb_0 : wq.cell? ⟨gb, 0, none⟩ = some (.int .i64 x.f0) := (blk_cell BK.out 0).trans rfl
      have hb_1 : wq.cell? ⟨gb, 1, none⟩ = some (.int .i64 x.f1) := (blk_cell BK.out 1).trans rfl
      obtain ⟨bm, hbm⟩ : ∃ bm, gn (i : Int) = bm := ⟨_, rfl⟩
      have hlook : (Instr.lookup 92 (.map (some m)) (.int .i64 (i : Int)) false).run Try.prog wq = .ok (.bool bm) wq := hbm ▸ FE.out.hM.lookup Try.underlying92 Try.underlying3 (i : Int) (by first | rfl | (go_simp; done))
      have HBM := Aside0.mk hbm
      rw [hbm] at HSK
      clear hbm
      go_cut [45] (fun v45 wc => ∃ b, v45 = .bool b ∧ Aside0 (b = sk) ∧ Aside0 (wc.heap[gb]? = some (.cells #[.int .i64 x.f0, .int .i64 x.f1, .int .i64 x.f2] 30 (0, 0))) ∧ Aside0 (TEnv w wc m (.slice Al out.length cl) out gn))
      case first =>
       cases bm with
       | true =>
        have hsk := HSK.out
        simp only [skipW, if_true, Option.some.injEq] at hsk
        have HS2 := Aside0.mk hsk
        clear hsk HSK
        go_wp2
        go_meet
        case rel => exact ⟨_, rfl, HS2, BK, FE⟩
       | false =>
        have hsk := HSK.out
        simp only [skipW, Bool.false_eq_true, if_false] at hsk
        clear HSK
        by_cases t1 : 0 ≤ x.f0
        case neg => rw [if_neg t1] at hsk; exact absurd hsk (by simp)
        rw [if_pos t1] at hsk
        have t1b := eq_true t1
        have t1c : decide (0 ≤ x.f0) = true := decide_eq_true t1
        clear t1
        obtain ⟨ja, hja⟩ : ∃ j_ : Int, (shr .i64 inn x.f0) = j_ := ⟨_, rfl⟩
        rw [hja] at hsk
        have hja_ : (inn / 2 ^ min x.f0.toNat 64) = ja := hja
        have hjaz : x.f0 ≤ 64 → (inn / 2 ^ x.f0.toNat) = ja := shr_small hja
        by_cases t2 : Go.bits .and .i64 ja 1 = 0
        ·rw [if_pos t2] at hsk
         have t2b : (Go.bits .and .i64 ja 1 == 0) = true := beq_iff_eq.mpr t2
         have t2c : decide (Go.bits .and .i64 ja 1 = 0) = true := decide_eq_true t2
         clear t2
         have HS2 := Aside0.mk (Option.some.inj hsk)
         clear hsk
         go_wp2
         go_meet
         case rel => exact ⟨_, rfl, HS2, BK, FE⟩
        rw [if_neg t2] at hsk
        have t2b : (Go.bits .and .i64 ja 1 == 0) = false := beq_eq_false_iff_ne.mpr t2
        have t2c : decide (Go.bits .and .i64 ja 1 = 0) = false := decide_eq_false t2
        clear t2
        by_cases t3 : 0 ≤ x.f1
        case neg => rw [if_neg t3] at hsk; exact absurd hsk (by simp)
        rw [if_pos t3] at hsk
        have t3b := eq_true t3
        have t3c : decide (0 ≤ x.f1) = true := decide_eq_true t3
        clear t3
        obtain ⟨jb, hjb⟩ : ∃ j_ : Int, (shr .i64 inn x.f1) = j_ := ⟨_, rfl⟩
        rw [hjb] at hsk
        have hjb_ : (inn / 2 ^ min x.f1.toNat 64) = jb := hjb
        have hjbz : x.f1 ≤ 64 → (inn / 2 ^ x.f1.toNat) = jb := shr_small hjb
        obtain ⟨bb, hbb⟩ : ∃ bb, (Go.bits .and .i64 jb 1 == 1) = bb := ⟨_, rfl⟩
        rw [hbb] at hsk
        have HS2 := Aside0.mk (Option.some.inj hsk)
        clear hsk
        go_wp2
        go_meet
        case rel => exact ⟨_, rfl, HS2, BK, FE⟩
      case rest =>
       clear BK FE hb_0 hb_1 hlook
       obtain ⟨b, rfl, hbb, BK, FE⟩ := hcut
       obtain rfl := hbb.out
       clear hbb
       have hb_0 : wc.cell? ⟨gb, 0, none⟩ = some (.int .i64 x.f0) := (blk_cell BK.out 0).trans rfl
       have hb_1 : wc.cell? ⟨gb, 1, none⟩ = some (.int .i64 x.f1) := (blk_cell BK.out 1).trans rfl
       have hq := HQ.out
       clear HQ
       cases b with
       | true =>
        simp only [if_true] at hq
        have HQ := Aside0.mk hq
        clear hq
        go_wp2
        go_roundg k2
        case measure => omega
        case rel => exact ⟨i + 1, rfl, rfl, val_succ2 i (by have := HI.out; have := HLEN.out; omega), ⟨by have := HI.out; omega⟩, ⟨HQ.out⟩, FE⟩
       | false =>
        simp only [Bool.false_eq_true, if_false] at hq
        obtain ⟨⟨lt1, lt2⟩, hlt, hq⟩ := Option.bind_eq_some_iff.1 hq
        have HLT := Aside0.mk hlt
        clear hlt
        simp only at hq
        have hbm : gn (i : Int) = false := by
         cases bm with
         | false => exact HBM.out
         | true => exact absurd HSK.out (by simp [skipW])
        clear HBM HSK
        have HGN := Aside0.mk hbm
        clear hbm
        by_cases t4 : lt1 ≥ many
        ·rw [if_pos t4] at hq
         obtain rfl := Option.some.inj hq
         have t4b : decide (many ≤ lt1) = true := decide_eq_true t4
         have t4c : decide (lt1 ≥ many) = true := decide_eq_true t4
         clear t4
         have hh := HH.out
         simp only [HX.out] at hh
         by_cases t5 : 0 ≤ x.f1
         case neg => rw [if_neg t5] at hh; exact absurd hh (by simp)
         rw [if_pos t5] at hh
         have t5b := eq_true t5
         have t5c : decide (0 ≤ x.f1) = true := decide_eq_true t5
         clear t5
         by_cases t6 : out.length < 1000000
         case neg => rw [if_neg t6] at hh; exact absurd hh (by simp)
         rw [if_pos t6] at hh
         have HLL := Aside0.mk t6
         clear t6 HH
         obtain ⟨jc, hjc⟩ : ∃ j_ : Int, (shl .i64 1 x.f1) = j_ := ⟨_, rfl⟩
         rw [hjc] at hh
         have hjc_ : (IntKind.i64.wrap (1 * 2 ^ min x.f1.toNat 64)) = jc := hjc
         have hjcz : x.f1 ≤ 64 → (IntKind.i64.wrap (1 * 2 ^ x.f1.toNat)) = jc := shl_small hjc
         have hjcu : (IntKind.i64.wrap (2 ^ min x.f1.toNat 64)) = jc := by have h_ := hjc_; rw [Int.one_mul] at h_; exact h_
         have hjcv : x.f1 ≤ 64 → (IntKind.i64.wrap (2 ^ x.f1.toNat)) = jc := fun hle_ => by have h_ := hjcz hle_; rw [Int.one_mul] at h_; exact h_
         have HH := Aside0.mk hh
         clear hh
         go_wp2_with (first | (at_mapUpdate; refine update_event FE.out.hM Try.underlying92 Try.underlying3 rfl _ _ _ rfl (i := (i : Int)) rfl rfl rfl ?_; intro w6 hm6 hg6; have n0_ := Aside0.mk (FE.out.upd hm6 hg6); have n1_ := Aside0.mk (blk_grown BK.out hg6 (by have := FE.out.hM.ne_cells BK.out; intro h; injection h with h; exact this h.symm)); clear FE BK hb_0 hb_1 hm6 hg6; have FE := n0_; have BK := n1_; clear n0_ n1_; have hb_1 : w6.cell? ⟨gb, 1, none⟩ = some (.int .i64 x.f1) := (blk_cell BK.out 1).trans rfl) | (go_at_call 53; (refine (branch_town_narrow.calls k g0 n _ c l mr (.map (some m)) (fun j => some (decide (j = (i : Int)) || gn j)) lt1 lt2 _ (HM0.out.blk_map HP0.out FE.out.kb) (HR.out _ FE.out.kb.keep) HC.out (FE.out.hM.isLook Try.underlying92 Try.underlying3 (fun _ => by first | rfl | (go_simp; done))) HLT.out).mono ?_); rintro e w7 ⟨rfl, hb⟩; have n0_ := Aside0.mk (FE.out.below hb); have n1_ := Aside0.mk (blk_below BK.out hb); clear FE BK hb hb_1; have FE := n0_; have BK := n1_; clear n0_ n1_; have hb_1 : w7.cell? ⟨gb, 1, none⟩ = some (.int .i64 x.f1) := (blk_cell BK.out 1).trans rfl) | ((with_reducible refine gate_builtin (b := .append) (xs := #[.tmp 57, .tmp 59]) rfl ?_); at_builtin; refine Kd.R_append (Kd.int .i64) (w0 := w7) w.heap.size rfl (.tmp 57) (.tmp 59) 28 3 (.int .i64 0) 8 rfl Try.underlying28 info3 rfl (by decide) (by omega) (.slice Al out.length cl) out (i : Int) [.int .i64 (i : Int)] (fun _ => True) (fun _ => False) rfl (by first | (go_simp; done) | (go_simp; rfl)) ?aP (fun _ hk => hk.elim) ?aF ?aO ?aB ?aS ?aL ?_; (case aP => exact rfl); (case aB => exact (by repeat (first | exact Below.refl _ _ | apply below_alloc_at | apply below_drew_at))); (case aF => exact (fun _ _ => trivial)); (case aO => exact (by (with_reducible repeat (first | apply Kd.R_alloc | apply Kd.R_drewN | apply Kd.R_drew)); exact FE.out.hL)); (case aS => exact Nat.le_trans FE.out.kb.keep.1 (below_size (by repeat (first | exact Below.refl _ _ | apply below_alloc | apply below_drew1)))); (case aL => have := HLL.out; omega); intro v2 w10 ho hb hg hat; have hg2 : w7.grownBy w10 (Value.slice Al out.length cl).ownBlock := (by first | exact hg | exact grown_then (below_alloc (Below.refl _ _) _) hg); have n1_ := Aside0.mk (blk_grown BK.out hg2 (Kd.R_ne FE.out.hL BK.out (by decide))); have n0_ := Aside0.mk (FE.out.app hb hg2.size hg2 ho); clear FE BK ho hb hg hat hg2 hb_1; have FE := n0_; have BK := n1_; clear n0_ n1_; have hb_1 : w10.cell? ⟨gb, 1, none⟩ = some (.int .i64 x.f1) := (blk_cell BK.out 1).trans rfl))
         go_roundg k1
         case measure => omega
         case rel => exact ⟨_, out ++ [(i : Int)], _, rfl, ⟨HH.out⟩, FE⟩
        ·rw [if_neg t4] at hq
         have HQ := Aside0.mk hq
         have t4b : decide (many ≤ lt1) = false := decide_eq_false t4
         have t4c : decide (lt1 ≥ many) = false := decide_eq_false t4
         clear t4 hq
         go_wp2_with (first | (at_mapUpdate; refine update_event FE.out.hM Try.underlying92 Try.underlying3 rfl _ _ _ rfl (i := (i : Int)) rfl rfl rfl ?_; intro w6 hm6 hg6; have n0_ := Aside0.mk (FE.out.upd hm6 hg6); have n1_ := Aside0.mk (blk_grown BK.out hg6 (by have := FE.out.hM.ne_cells BK.out; intro h; injection h with h; exact this h.symm)); clear FE BK hb_0 hb_1 hm6 hg6; have FE := n0_; have BK := n1_; clear n0_ n1_; have hb_1 : w6.cell? ⟨gb, 1, none⟩ = some (.int .i64 x.f1) := (blk_cell BK.out 1).trans rfl) | (go_at_call 53; (refine (branch_town_narrow.calls k g0 n _ c l mr (.map (some m)) (fun j => some (decide (j = (i : Int)) || gn j)) lt1 lt2 _ (HM0.out.blk_map HP0.out FE.out.kb) (HR.out _ FE.out.kb.keep) HC.out (FE.out.hM.isLook Try.underlying92 Try.underlying3 (fun _ => by first | rfl | (go_simp; done))) HLT.out).mono ?_); rintro e w7 ⟨rfl, hb⟩; have n0_ := Aside0.mk (FE.out.below hb); have n1_ := Aside0.mk (blk_below BK.out hb); clear FE BK hb hb_1; have FE := n0_; have BK := n1_; clear n0_ n1_; have hb_1 : w7.cell? ⟨gb, 1, none⟩ = some (.int .i64 x.f1) := (blk_cell BK.out 1).trans rfl) | ((with_reducible refine gate_builtin (b := .delete) (xs := #[.tmp 66, .tmp 67]) rfl ?_); refine delete_event FE.out.hM Try.underlying92 Try.underlying3 rfl _ _ rfl (i := (i : Int)) rfl rfl ?_; intro w8 hm8 hg8; have n0_ := Aside0.mk (FE.out.upd (undo_gone HGN.out ▸ hm8) hg8); clear FE BK hb_1 hm8 hg8; have FE := n0_; clear n0_))
         go_roundg k2
         case measure => omega
         case rel => exact ⟨i + 1, rfl, rfl, val_succ2 i (by have := HI.out; have := HLEN.out; omega), ⟨by have := HI.out; omega⟩, ⟨HQ.out⟩, FE⟩
end Go.Proofs.Ytpmadffgdfholaa.B
namespace Go.Proofs
open Go.Shelf Go.RowKit Go.Lib
def Ytpmadffgdfholaa.B.layCmp_ren : Go.Shelf.Ren := ⟨fun | 5 => 78 | 7 => 93 | n => n, fun | 22 => 3 | 3 => 3 | 4 => 4 | n => n, fun | n => n⟩
theorem Ytpmadffgdfholaa.B.layCmp : Go.Proofs.SlLaysC2.n5 Try.prog Ytpmadffgdfholaa.B.layCmp_ren where
  mixed := by kernel_rfl
  f5 := ⟨Try.f78.name, by kernel_rfl, Try.func78.trans (congrArg some (by kernel_rfl))⟩
  f7 := ⟨Try.f93.name, by kernel_rfl, Try.func93.trans (congrArg some (by kernel_rfl))⟩
  t3 := Try.underlying3
  a3 := Try.isAgg3
  z3 := Try.sizeOf3
  v3 := Try.zeroValue3
  t4 := Try.underlying4
  a4 := Try.isAgg4
  z4 := Try.sizeOf4
  v4 := Try.zeroValue4
  t22 := Try.underlying3
  a22 := Try.isAgg3
  z22 := Try.sizeOf3
  v22 := Try.zeroValue3
end Go.Proofs
namespace Go.Proofs.Ytpmadffgdfholaa.B
open Go.RowKit Go.MapKept Go.Proofs.YtpmadffgdfholaaW.PrintWords Go.Proofs.YtpmadffgdfholaaW.PrintLast Go.Proofs.YtpmadffgdfholaaW.PrintMore
set_option linter.unusedVariables false
set_option linter.unusedSimpArgs false
attribute [local go_sem ↓] Go.wp_at_zero Go.wp_at_succ
def cmpL : List Int → List Int → Int
  | [], [] => 0
  | [], _ :: _ => -1
  | _ :: _, [] => 1
  | x :: xs, y :: ys => if Lib.compareInt x y = 0 then cmpL xs ys else Lib.compareInt x y
theorem cmp78 (x y : Int) (W : World) : Calls Try.prog 78 #[.int .i64 x, .int .i64 y] W fun e w' => e = .returned (.int .i64 (Lib.compareInt x y)) ∧ w' = W := by
  have hcon := AnyG.cmp_Compare_int layCmp x y W
  change Calls Try.prog 78 _ _ _ at hcon
  exact hcon
set_option maxHeartbeats 8000000 in
set_option maxRecDepth 100000 in
theorem compare_calls (A1 A2 : Option Addr) (c1 c2 : Nat) (l1 l2 : List Int) (w : World) (hr1 : Kd.C (Kd.int .i64) w A1 l1.length l1) (hr2 : Kd.C (Kd.int .i64) w A2 l2.length l2) (hl : l1.length < 2000000) :
  Calls Try.prog 66 #[.slice A1 l1.length c1, .slice A2 l2.length c2] w fun e w' => e = .returned (.int .i64 (cmpL l1 l2)) ∧ ∃ q, w' = w.drewN q := by
 obtain ⟨r, hr⟩ : ∃ r, cmpL l1 l2 = r := ⟨_, rfl⟩
 rw [hr]
 have H0 := Aside0.mk hr
 have HR1 := Aside0.mk hr1
 have HR2 := Aside0.mk hr2
 have HL := Aside0.mk hl
 clear hr hr1 hr2 hl
 go_enter Try.func66, Try.ntmps66
 go_wp2
 go_loopg [11] l1.length (fun kq v11 w' => ∃ (i q : Nat), v11 = .int .i64 (i : Int) ∧ w' = w.drewN q ∧ Aside0 (i + kq = l1.length) ∧ Aside0 (cmpL (l1.drop i) (l2.drop i) = r))
 case atStart => exact ⟨0, 0, rfl, rfl, ⟨by simp⟩, ⟨H0.out⟩⟩
 case round =>
  clear H0
  obtain ⟨i, q, rfl, rfl, HI, HH⟩ := hrel
  cases gk with
  | zero =>
   have hi := HI.out
   have c4b : decide ((i : Int) < (l1.length : Int)) = false := decide_eq_false (by omega)
   have c4b2 : decide (i < l1.length) = false := decide_eq_false (by omega)
   have hh := HH.out
   rw [List.drop_eq_nil_of_le (by omega)] at hh
   clear HH
   by_cases t0 : l1.length < l2.length
   ·have e : r = -1 := by
     cases hd : l2.drop i with
     | nil => rw [List.drop_eq_nil_iff] at hd; omega
     | cons a b => rw [hd] at hh; exact hh.symm
    subst e
    have s0 : decide ((l1.length : Int) < (l2.length : Int)) = true := decide_eq_true (by omega)
    have s0b : decide (l1.length < l2.length) = true := decide_eq_true t0
    clear t0 hh hi
    go_wp2
    go_ret
    exact ⟨rfl, q, rfl⟩
   ·have e : r = 0 := by
     rw [List.drop_eq_nil_of_le (by omega)] at hh
     exact hh.symm
    subst e
    have s0 : decide ((l1.length : Int) < (l2.length : Int)) = false := decide_eq_false (by omega)
    have s0b : decide (l1.length < l2.length) = false := decide_eq_false t0
    clear t0 hh hi
    go_wp2
    go_ret
    exact ⟨rfl, q, rfl⟩
  | succ k1 =>
   have hi0 : (0 : Int) ≤ (i : Int) := Int.natCast_nonneg _
   have hi1 : (i : Int) < (l1.length : Int) := by have := HI.out; omega
   have c4b : decide ((i : Int) < (l1.length : Int)) = true := decide_eq_true hi1
   have hi2 : i < l1.length := by omega
   have c4b2 : decide (i < l1.length) = true := decide_eq_true hi2
   have hh := HH.out
   rw [drop_rdI l1 i hi2] at hh
   obtain ⟨ad, e, hx⟩ := Kd.at_int HR1.out (i : Int) hi0 hi1
   cases e
   obtain ⟨x, hx2⟩ : ∃ x, rd l1 (i : Int) = x := ⟨_, rfl⟩
   rw [hx2] at hx hh
   simp only [Int.toNat_natCast] at hx
   replace hx : (w.drewN q).cell? _ = _ := hx
   clear hx2 HH
   replace hi0 := eq_true hi0
   replace hi1 := eq_true hi1
   replace hi2 := eq_true hi2
   by_cases t0 : i < l2.length
   ·have hi3 : (i : Int) < (l2.length : Int) := by omega
    have hi0' : (0 : Int) ≤ (i : Int) := Int.natCast_nonneg _
    rw [drop_rdI l2 i t0] at hh
    obtain ⟨ae, e, hy⟩ := Kd.at_int HR2.out (i : Int) hi0' hi3
    cases e
    obtain ⟨y, hy2⟩ : ∃ y, rd l2 (i : Int) = y := ⟨_, rfl⟩
    rw [hy2] at hy hh
    simp only [Int.toNat_natCast] at hy
    replace hy : (w.drewN q).cell? _ = _ := hy
    clear hy2
    have s0 : decide ((l2.length : Int) ≤ (i : Int)) = false := decide_eq_false (by omega)
    have s0b : decide (l2.length ≤ i) = false := decide_eq_false (by omega)
    replace hi3 := eq_true hi3
    replace t0 := eq_true t0
    unfold cmpL at hh
    obtain ⟨z, hz⟩ : ∃ z, Lib.compareInt x y = z := ⟨_, rfl⟩
    rw [hz] at hh
    have hcon := hz ▸ cmp78 x y
    have HCON := Aside0.mk hcon
    clear hcon hz
    by_cases t1 : z = 0
    ·rw [if_pos t1] at hh
     have s1 : (z == 0) = true := beq_iff_eq.mpr t1
     have s1b : (z != 0) = false := bne_eq_false_iff_eq.mpr t1
     have HH := Aside0.mk hh
     clear t1 hh
     go_wp2_with (first | (go_at_call 78; refine (HCON.out _).mono ?_; rintro e w' ⟨rfl, rfl⟩))
     go_roundg k1
     case measure => omega
     case rel => exact ⟨i + 1, q, val_succ2 i (by have := HI.out; have := HL.out; omega), rfl, ⟨by have := HI.out; omega⟩, HH⟩
    ·rw [if_neg t1] at hh
     subst hh
     have s1 : (z == 0) = false := beq_eq_false_iff_ne.mpr t1
     have s1b : (z != 0) = true := bne_iff_ne.mpr t1
     clear t1
     go_wp2_with (first | (go_at_call 78; refine (HCON.out _).mono ?_; rintro e w' ⟨rfl, rfl⟩))
     go_ret
     exact ⟨rfl, q, rfl⟩
   ·rw [List.drop_eq_nil_of_le (show l2.length ≤ i by omega)] at hh
    have e : r = 1 := hh.symm
    subst e
    have s0 : decide ((l2.length : Int) ≤ (i : Int)) = true := decide_eq_true (by omega)
    have s0b : decide (l2.length ≤ i) = true := decide_eq_true (by omega)
    clear t0 hh
    go_wp2
    go_ret
    exact ⟨rfl, q, rfl⟩
end Go.Proofs.Ytpmadffgdfholaa.B
namespace Go.Proofs.Ytpmadffgdfholaa.B
set_option linter.unusedVariables false
set_option linter.unusedSimpArgs false
open Go.RowKit Go.Sort Go.Proofs.YtpmadffgdfholaaW.PrintWords Go.Proofs.YtpmadffgdfholaaW.PrintLast Go.Proofs.YtpmadffgdfholaaW.PrintMore
theorem cmpI_pos (x y : Int) : Lib.compareInt x y = 0 ↔ x = y := by
  unfold Lib.compareInt
  by_cases h1 : x < y
  · simp [h1]; omega
  · by_cases h2 : y < x
    · simp [h1, h2]; omega
    · simp [h1, h2]; omega
theorem cmpI_lt (x y : Int) : Lib.compareInt x y < 0 ↔ x < y := by
  unfold Lib.compareInt
  by_cases h1 : x < y
  · simp [h1]
  · by_cases h2 : y < x
    · simp [h1, h2]
    · simp [h1, h2]
/-- Less, word by word. -/
theorem cmpL_lt : ∀ (x y : List Int), cmpL x y < 0 ↔ x < y
  | [], [] => by simp [cmpL]
  | [], _ :: _ => by simp [cmpL]
  | _ :: _, [] => by simp [cmpL]
  | x :: xs, y :: ys => by
    unfold cmpL
    rw [List.cons_lt_cons_iff]
    by_cases h : Lib.compareInt x y = 0
    · rw [if_pos h, cmpL_lt xs ys]
      rw [cmpI_pos] at h
      subst h
      simp
    · rw [if_neg h, cmpI_lt]
      rw [cmpI_pos] at h
      simp [h]
def ltL (x y : List Int) : Bool := decide (cmpL x y < 0)
theorem ltL_eq (x y : List Int) : ltL x y = decide (x < y) := by
  unfold ltL
  rw [decide_eq_decide]
  exact cmpL_lt x y
theorem swo_ltL : SWO ltL where
  irrefl x := by rw [ltL_eq]; simp
  trans x y z h1 h2 := by
    rw [ltL_eq] at *
    simp only [decide_eq_true_eq] at *
    exact List.lt_trans h1 h2
  ntrans x y z h1 h2 := by
    rw [ltL_eq] at *
    simp only [decide_eq_false_iff_not, List.not_lt] at *
    exact List.le_trans h2 h1
theorem tot_ltL (x y : List Int) (h1 : ltL x y = false) (h2 : ltL y x = false) : x = y := by
  rw [ltL_eq] at *
  simp only [decide_eq_false_iff_not, List.not_lt] at *
  exact List.le_antisymm h2 h1
def sortL (xs : List (List Int)) : List (List Int) := xs.mergeSort fun x y => !ltL y x
/-- A row of the call's own, with what it says. -/
structure Own1 (w : World) (base : Nat) (ok : Nat → Prop) where
  v : Value
  l : List Int
  r : Kd.R (Kd.int .i64) 3 w base ok v l
  h : l.length < 2000000
instance (w : World) (base : Nat) (ok : Nat → Prop) : Inhabited (Own1 w base ok) := ⟨⟨.slice none 0 0, [], Kd.R_nil _ _ _ _ _, by decide⟩⟩
theorem own1_list {w : World} {base : Nat} {ok : Nat → Prop} {xs : List (List Int)} {inner : List Value} (hr : Reps ((Kd.slice 3 (Kd.int .i64)).M w base ok) 1 xs inner) (hl : ∀ x ∈ xs, x.length < 2000000) :
    ∃ ds : List (Own1 w base ok), ds.map Own1.v = inner ∧ ds.map Own1.l = xs := by
  induction xs generalizing inner with
  | nil =>
    have h1 := hr.1
    simp at h1
    exact ⟨[], by simp [h1], rfl⟩
  | cons x xs ih =>
    have h1 := hr.1
    cases inner with
    | nil => simp at h1
    | cons v inner =>
      obtain ⟨u, hu, hR⟩ := hr.2 0 x rfl
      simp at hu
      subst hu
      obtain ⟨ds, e1, e2⟩ := ih (inner := inner) ⟨by simpa using h1, fun j p hj => by
        have := hr.2 (j + 1) p (by simpa using hj)
        simpa using this⟩ (fun y hy => hl y (List.mem_cons_of_mem _ hy))
      exact ⟨⟨v, x, hR, hl x List.mem_cons_self⟩ :: ds, by simp [e1], by simp [e2]⟩
theorem sortF_calls (A : Option Addr) (c : Nat) (xs : List (List Int)) (base : Nat) (w : World) (hR : Kd.R (Kd.slice 3 (Kd.int .i64)) 28 w base (fun _ => True) (.slice A xs.length c) xs) (hne : xs ≠ []) (hl : xs.length < 2000000) (hl2 : ∀ x ∈ xs, x.length < 2000000) :
    Calls Try.prog 65 #[.slice A xs.length c, .func (.func 66) #[] #[]] w fun e w' => e = .returned (.tuple #[]) ∧ Kd.R (Kd.slice 3 (Kd.int .i64)) 28 w' base (fun _ => True) (.slice A xs.length c) (sortL xs) ∧ w.grownBy w' (Value.slice A xs.length c).ownBlock := by
  obtain ⟨g, cap, e, hb, hg, cells, hc⟩ := Kd.R_form hR (List.length_pos_iff.2 hne)
  injection e with e _ e2
  subst e e2
  obtain ⟨h0, inner, ho, hr⟩ := hR
  have hr2 : Reps ((Kd.slice 3 (Kd.int .i64)).M w base (fun k => k ≠ g)) 1 xs inner := hr.imp_ (fun _ _ h => (Kd.slice 3 (Kd.int .i64)).M_mono (fun k hk => fun e => hk.2 (by rw [e]; rfl)) h)
  obtain ⟨ds, e1, e2⟩ := own1_list hr2 hl2
  have hdl : ds.length = xs.length := by have := congrArg List.length e2; simpa using this
  have hin : inner = ds.toArray.toList.map Own1.v := by simpa using e1.symm
  subst hin
  have hh := own_holds Own1.v ho (by simp [hdl])
  have hcmp : CmpLays1 Try.prog 66 #[] (Own1.v : Own1 w base (fun k => k ≠ g) → Value) (fun x y => cmpL x.l y.l) g 0 ds.toArray.size w := by
    intro m os dk hs x y
    have hgr : w.grownBy (sortWorld (Own1.v : Own1 w base (fun k => k ≠ g) → Value) w g 0 m dk os) (some g) := (putRow_block _ hc m dk os).2
    obtain ⟨A1, c1, ex⟩ := Kd.R_slice x.r
    obtain ⟨A2, c2, ey⟩ := Kd.R_slice y.r
    have hx := Kd.R_grown x.r hgr (fun k hk => fun e => hk (by injection e))
    have hy := Kd.R_grown y.r hgr (fun k hk => fun e => hk (by injection e))
    rw [ex] at hx
    rw [ey] at hy
    rw [ex, ey]
    refine (compare_calls A1 A2 c1 c2 x.l y.l _ (Kd.R_reads' hx).2.2 (Kd.R_reads' hy).2.2 x.h).mono fun e w' hw => ?_
    obtain ⟨he, q, hq⟩ := hw
    exact ⟨he, q, #[], by rw [hq]; simp⟩
  have hO : SWO (ltOf (fun x y : Own1 w base (fun k => k ≠ g) => cmpL x.l y.l)) :=
    ⟨fun x => swo_ltL.irrefl x.l, fun x y z => swo_ltL.trans x.l y.l z.l, fun x y z => swo_ltL.ntrans x.l y.l z.l⟩
  have eg : ∀ args w, (callFunc 66 args).run Try.prog w = .ok (.enter 66 args) w := enters_of Try.func66 (by kernel_rfl) rfl
  have h := Any.slices_SortFunc laySortF Own1.v (fun x => by obtain ⟨A1, c1, ex⟩ := Kd.R_slice x.r; rw [ex]; rfl) _ hO 66 #[] g 0 c ds.toArray w eg hcmp hh.1 hh.2 (by simp; omega)
  change Calls Try.prog 65 _ _ _ at h
  have hsz : ds.toArray.size = xs.length := by simp [hdl]
  rw [hsz] at h
  refine h.mono fun e w' hw => ?_
  obtain ⟨he, d', q, os, hp, hso, rfl⟩ := hw
  have hd' : d'.size = xs.length := by rw [hp.1, hsz]
  have hp2 := own_put Own1.v ho q d' hd' os
  have hlist : d'.toList.map Own1.l = sortL xs := by
    have hh := sorted_unique_holds swo_ltL tot_ltL xs.toArray (d'.map Own1.l) ?_ ?_
    · simpa [sortL] using hh
    · refine ⟨by simp [hd'], fun i hi => ?_, ?_⟩
      · have hi : xs.length ≤ i := by
          rcases hi with hi | hi
          · omega
          · simpa using hi
        rw [getElem!_neg _ _ (by simp; omega), getElem!_neg _ _ (by simp; omega)]
      · have h3 := hp.2.2
        have e3 : (d'.extract 0 xs.length).toList = d'.toList := by rw [← hd']; simp
        have e4 : (ds.toArray.extract 0 xs.length).toList = ds := by rw [← hdl]; simp
        rw [e3, e4] at h3
        have h4 := h3.map Own1.l
        rw [e2] at h4
        have e5 : ((d'.map Own1.l).extract 0 xs.toArray.size).toList = d'.toList.map Own1.l := by
          have : xs.toArray.size = (d'.map Own1.l).size := by simp [hd']
          rw [this]; simp
          rw [List.take_of_length_le (by simp)]
        have e6 : (xs.toArray.extract 0 xs.toArray.size).toList = xs := by simp
        rw [e5, e6]
        exact h4
    · intro i j _ hij hj
      have hj2 : j < xs.length := by simpa using hj
      have := hso i j (Nat.zero_le _) hij hj2
      rw [getElem!_pos d' j (by omega), getElem!_pos d' i (by omega)] at this
      rw [getElem!_pos _ j (by simp; omega), getElem!_pos _ i (by simp; omega)]
      simpa [ltOf, ltL] using this
  refine ⟨he, ⟨h0, d'.toList.map Own1.v, ?_, ?_⟩, hp2.2⟩
  · have : (sortL xs).length = xs.length := List.length_mergeSort _
    rw [this]; exact hp2.1
  · rw [← hlist]
    show Reps _ 1 _ _
    refine ⟨by simp, fun j p hj => ?_⟩
    rw [List.getElem?_map] at hj
    cases hz : d'.toList[j]? with
    | none => rw [hz] at hj; simp at hj
    | some z =>
      rw [hz] at hj
      obtain rfl := Option.some.inj hj
      refine ⟨z.v, ?_, ?_⟩
      · apply List.ext_getElem?
        intro i
        cases i with
        | zero => simp [List.getElem?_take, show d'[j]? = some z by simpa using hz]
        | succ i => simp [List.getElem?_take]
      · exact Kd.R_mono (Kd.R_grown z.r hp2.2 (fun k hk => fun e => hk (by injection e))) (fun k hk => ⟨trivial, fun e => hk (by injection e)⟩)
end Go.Proofs.Ytpmadffgdfholaa.B
namespace Go.Proofs.Ytpmadffgdfholaa.B
open Go.RowKit Go.Proofs.YtpmadffgdfholaaW.PrintWords Go.Proofs.YtpmadffgdfholaaW.PrintLast Go.Proofs.YtpmadffgdfholaaW.PrintMore
set_option linter.unusedVariables false
set_option linter.unusedSimpArgs false
theorem came_foot {g : Nat} {w W : World} {A : Option Addr} {n : Nat} {xs : List S30} (h : Kd.C k30 w A n xs) (hb : Below w.heap.size w W) (hg : w.heap.size ≤ g) : ∀ W', KeepBut W W' g none → Kd.C k30 W' A n xs := Kd.C_foot_came k30_heap h hb hg
end Go.Proofs.Ytpmadffgdfholaa.B
namespace Go.Proofs.Ytpmadffgdfholaa.B
open Go.RowKit Go.MapKept Go.Proofs.YtpmadffgdfholaaW.PrintWords Go.Proofs.YtpmadffgdfholaaW.PrintLast Go.Proofs.YtpmadffgdfholaaW.PrintMore
set_option linter.unusedVariables false
set_option linter.unusedSimpArgs false
attribute [local go_sem ↓] Go.wp_at_zero Go.wp_at_succ
def apartL (k : Nat) (n : Int) (l : List S30) : Nat → (Int → Bool) → List (List Int) → Option (List (List Int))
  | 0, _, out => some out
  | c + 1, gone, out => (branch_town_tree.f k n l gone (c : Int)).bind fun t => if out.length < 1000000 then apartL k n l c t.2 (out ++ [t.1]) else none
def branch_Apart.f (k : Nat) (n : Int) (l : List S30) : Option (List (List Int) × Int) :=
  if readB n l = 0 then (branch_town_narrow.f k n l (fun _ => some false)).bind fun lt => if 0 ≤ lt.1 ∧ lt.1 < 1000000 then (apartL k n l lt.1.toNat (fun _ => false) []).bind fun out =>
    if out.length < 2000000 ∧ (∀ x ∈ out, x.length < 2000000) then some (sortL out, 0) else none else none else some ([], readB n l)
/-- What a walk of Apart knows of its world. -/
structure AEnv (w W : World) (gt m : Nat) (cs : Array Value) (vl : Value) (out : List (List Int)) (gone : Int → Bool) : Prop where
  hB : Below w.heap.size w W
  tB : W.heap[gt]? = some (.cells cs 70 (0, 0))
  hM : SetM W m gone
  gm : w.heap.size ≤ m
  hL : Kd.R (Kd.slice 3 (Kd.int .i64)) 28 W w.heap.size (fun _ => True) vl out
theorem R_rows_kb {w W : World} {base m : Nat} {v : Value} {xs : List (List Int)} {gone : Int → Bool} (h : Kd.R (Kd.slice 3 (Kd.int .i64)) 28 w base (fun _ => True) v xs) (hM : SetM w m gone) (hk : KB m w W) : Kd.R (Kd.slice 3 (Kd.int .i64)) 28 W base (fun _ => True) v xs := by
  refine Kd.R_mono (Kd.R_keep (Kd.R_bound h) hk.keep (fun k hk2 => ?_)) (fun _ hk => hk.1)
  obtain ⟨_, _, _, q, _, cells, hc⟩ := hk2
  rintro rfl
  exact hM.ne_cells hc rfl
theorem AEnv.below {w W W2 : World} {gt m : Nat} {cs : Array Value} {vl : Value} {out : List (List Int)} {gone : Int → Bool} (h : AEnv w W gt m cs vl out gone) (hb : Below W.heap.size W W2) : AEnv w W2 gt m cs vl out gone :=
  ⟨below_step h.hB hb, blk_below h.tB hb, h.hM.below hb, h.gm, Kd.R_below h.hL hb⟩
theorem AEnv.kb {w W W2 : World} {gt m : Nat} {cs : Array Value} {vl : Value} {out : List (List Int)} {gone gone2 : Int → Bool} (h : AEnv w W gt m cs vl out gone) (hM2 : SetM W2 m gone2) (hk : KB m W W2) : AEnv w W2 gt m cs vl out gone2 :=
  ⟨hk.below h.hB h.gm, h.hM.blk_map h.tB hk, hM2, h.gm, R_rows_kb h.hL h.hM hk⟩
theorem SetM.rows {w w2 : World} {m base : Nat} {g : Int → Bool} {v : Value} {xs : List (List Int)} (h : SetM w m g) (hR : Kd.R (Kd.slice 3 (Kd.int .i64)) 28 w base (fun _ => True) v xs) (hg : w.grownBy w2 v.ownBlock) : SetM w2 m g :=
  h.of_block (hg.block m h.lt (fun e => by
    obtain ⟨cells, hc⟩ := own_typed (Kd.R_own hR).choose_spec m e.symm
    exact h.ne_cells hc rfl))
theorem AEnv.app {w W W2 : World} {gt m : Nat} {cs : Array Value} {vl v2 : Value} {out out2 : List (List Int)} {gone : Int → Bool} (h : AEnv w W gt m cs vl out gone) (hb : Below w.heap.size w W2) (hg : W.grownBy W2 vl.ownBlock) (hL : Kd.R (Kd.slice 3 (Kd.int .i64)) 28 W2 w.heap.size (fun _ => True) v2 out2) : AEnv w W2 gt m cs v2 out2 gone :=
  ⟨hb, blk_grown h.tB hg (Kd.R_ne h.hL h.tB (by decide)), h.hM.rows h.hL hg, h.gm, hL⟩
theorem R_self {w : World} {base : Nat} {v : Value} {xs : List Int} {ok : Nat → Prop} (h : Kd.R (Kd.int .i64) 3 w base ok v xs) : Kd.R (Kd.int .i64) 3 w base (fun k => some k = v.ownBlock) v xs := by
  obtain ⟨_, inner, ho, hr⟩ := h
  exact ⟨fun k hk => hk.symm, inner, ho, hr.imp_ (fun _ _ h => h)⟩
set_option maxHeartbeats 8000000 in
set_option maxRecDepth 100000 in
theorem branch_Apart.calls (k : Nat) (a0 : Int) (A1 : Option Addr) (c1 : Nat) (l1 : List S30) (r1 : List (List Int)) (r2 : Int) (w : World) (hr1 : Kd.C k30 w A1 l1.length l1) (hc1 : l1.length ≤ c1) (h : branch_Apart.f k a0 l1 = some (r1, r2)) :
  Calls Try.prog 40 #[.int .i64 a0, .slice A1 l1.length c1] w fun e w' => ∃ v0_ : Value, e = .returned (.tuple #[v0_, .int .i64 r2]) ∧ Kd.R (Kd.slice 3 (Kd.int .i64)) 28 w' w.heap.size (fun _ => True) v0_ r1 ∧ Below w.heap.size w w' := by
 have HR1 := Aside0.mk hr1
 have HC1 := Aside0.mk hc1
 clear hr1 hc1
 have HB := Aside0.mk (Below.refl w.heap.size w)
 unfold branch_Apart.f at h
 obtain ⟨t, ht⟩ : ∃ t, readB a0 l1 = t := ⟨_, rfl⟩
 rw [ht] at h
 have HT0 := Aside0.mk (show branch_read.f a0 l1 = some t by unfold branch_read.f; rw [ht])
 clear ht
 by_cases c3 : t = 0
 case neg =>
  rw [if_neg c3] at h
  have c3b : (t == 0) = false := beq_eq_false_iff_ne.mpr c3
  have c3c : (t != 0) = true := bne_iff_ne.mpr c3
  simp only [Option.some.injEq, Prod.mk.injEq] at h
  obtain ⟨rfl, rfl⟩ := h
  clear c3
  go_enter Try.func40, Try.ntmps40
  go_wp2_with (first | (go_at_call 44; (refine (branch_read.calls_err a0 A1 c1 l1 t _ HR1.out HC1.out HT0.out (by assumption)).mono ?_); rintro e w1 ⟨rfl, hb⟩; clear HB; have HB := Aside0.mk hb; clear hb))
  go_ret2
  exact ⟨_, by first | rfl | (simp; done), Kd.R_nil _ _ _ _ _, HB.out⟩
 rw [if_pos c3] at h
 have c3b : (t == 0) = true := beq_iff_eq.mpr c3
 have c3c : (t != 0) = false := bne_eq_false_iff_eq.mpr c3
 clear c3
 obtain ⟨⟨lt1, lt2⟩, hlt, h⟩ := Option.bind_eq_some_iff.1 h
 simp only at h
 by_cases hm : 0 ≤ lt1 ∧ lt1 < 1000000
 case neg => rw [if_neg hm] at h; exact absurd h (by simp)
 rw [if_pos hm] at h
 obtain ⟨M, rfl⟩ := Int.eq_ofNat_of_zero_le hm.1
 have HMM := Aside0.mk hm
 have HLT := Aside0.mk hlt
 clear hm hlt
 obtain ⟨out0, hout, h⟩ := Option.bind_eq_some_iff.1 h
 have HO0 := Aside0.mk (show apartL k a0 l1 M (fun _ => false) [] = some out0 by simpa using hout)
 clear hout
 by_cases hs : out0.length < 2000000 ∧ (∀ x ∈ out0, x.length < 2000000)
 case neg => rw [if_neg hs] at h; exact absurd h (by simp)
 rw [if_pos hs] at h
 have HS := Aside0.mk hs
 simp only [Option.some.injEq, Prod.mk.injEq] at h
 obtain ⟨rfl, rfl⟩ := h
 clear hs
 go_enter Try.func40, Try.ntmps40
 go_wp2_with (first | (go_at_call 44; (refine (branch_read.calls_ok a0 A1 c1 l1 t _ HR1.out HC1.out HT0.out (by assumption)).mono ?_); rintro e w1 ⟨gt, mr, rfl, hg, hbox, hb⟩; have HT := Aside0.mk hbox; clear HB; have HB := Aside0.mk hb; clear hg hbox hb) | (go_at_call 53; (refine (branch_town_narrow.calls k gt a0 A1 c1 l1 mr (.map none) (fun _ => some false) (M : Int) lt2 _ HT.out (Kd.C_below HR1.out HB.out) HC1.out (IsLook.nil rfl rfl (fun _ => by first | rfl | (go_simp; done)) _) HLT.out).mono ?_); rintro e w2 ⟨rfl, hb⟩; have n0_ := Aside0.mk (below_step HB.out hb); have n1_ := Aside0.mk (blk_below HT.out hb); clear HB HT hb; have HB := n0_; have HT := n1_; clear n0_ n1_) | ((with_reducible refine gate_dst (N := 26) rfl ?_); refine map_event ?hg (N := 26) ?hd ?hr ?_; (case hd => rfl); (case hg => rfl); (case hr => rfl); intro m hm w3 hmap hb; have AE := Aside0.mk (show AEnv w w3 gt m _ (.slice none 0 0) [] (fun _ => false) from ⟨below_step HB.out hb, blk_below HT.out hb, SetM.new hmap, by rw [hm]; exact below_size HB.out, Kd.R_nil _ _ _ _ _⟩); clear HB HT hm hmap hb))
 go_loopg [8, 11] M (fun kq v8 v11 w' => ∃ (gone : Int → Bool) (out : List (List Int)), v8 = .int .i64 (kq : Int) ∧ Aside0 (kq ≤ M) ∧ Aside0 (apartL k a0 l1 kq gone out = some out0) ∧ Aside0 (AEnv w w' gt m #[.int .i64 a0, .slice A1 l1.length c1, .map mr] v11 out gone))
 case atStart => exact ⟨_, [], rfl, ⟨Nat.le_refl _⟩, ⟨HO0.out⟩, AE⟩
 case round =>
  clear AE HO0
  obtain ⟨gone, out, rfl, HK, HH, AE⟩ := hrel
  obtain ⟨Al, cl, hvl⟩ := Kd.R_slice AE.out.hL
  subst hvl
  cases gk with
  | zero =>
   have hh := HH.out
   simp only [apartL, Option.some.injEq] at hh
   subst hh
   have d0 : decide ((0 : Int) < ((0 : Nat) : Int)) = false := by decide
   by_cases hne : out = []
   ·subst hne
    have hnone := fun W => AnyF.slices_SortFunc_none { laySortF with } Al cl (.func (.func 66) #[] #[]) W
    have HN := Aside0.mk (show ∀ W, Calls Try.prog 65 #[.slice Al 0 cl, .func (.func 66) #[] #[]] W fun e w' => e = .returned (.tuple #[]) ∧ w' = W from hnone)
    clear hnone
    go_wp2_with (first | (go_at_call 65; refine (HN.out _).mono ?_; rintro e w' ⟨rfl, rfl⟩))
    go_ret2
    exact ⟨_, by first | rfl | (simp; done), by have := AE.out.hL; simpa [sortL] using this, AE.out.hB⟩
   ·have HNE := Aside0.mk hne
    clear hne
    go_wp2_with (first | (go_at_call 65; (refine (sortF_calls Al cl out w.heap.size _ AE.out.hL HNE.out HS.out.1 HS.out.2).mono ?_); rintro e w6 ⟨rfl, ho, hg⟩; have n0_ := Aside0.mk (AE.out.app (AE.out.hB.grown hg AE.out.hB.size (own_base (Kd.R_own AE.out.hL).choose_spec)) hg ho); clear AE ho hg; have AE := n0_; clear n0_))
    go_ret2
    exact ⟨_, by first | rfl | (simp; done), AE.out.hL, AE.out.hB⟩
  | succ k2 =>
   have hh := HH.out
   unfold apartL at hh
   obtain ⟨⟨t1, g1⟩, htr, hh⟩ := Option.bind_eq_some_iff.1 hh
   simp only at hh
   by_cases hll : out.length < 1000000
   case neg => rw [if_neg hll] at hh; exact absurd hh (by simp)
   rw [if_pos hll] at hh
   have HTR := Aside0.mk htr
   have HLL := Aside0.mk hll
   clear HH htr hll
   have HH := Aside0.mk hh
   clear hh
   obtain ⟨mm, hmm⟩ : ∃ mm : Int, ((k2 + 1 : Nat) : Int) = mm := ⟨_, rfl⟩
   have d0 : decide ((0 : Int) < mm) = true := decide_eq_true (by omega)
   have d1 : wrap64 (mm - 1) = (k2 : Int) := by have := HK.out; have := HMM.out; unfold wrap64; omega
   rw [hmm]
   clear hmm
   go_wp2_with (first | (go_at_call 64; (refine (branch_town_tree.calls k gt a0 A1 c1 l1 mr m gone g1 (k2 : Int) t1 _ AE.out.tB (came_foot HR1.out AE.out.hB AE.out.gm) HC1.out AE.out.hM HTR.out).mono ?_); rintro e w5 ⟨vt, rfl, ho, hM, hk⟩; obtain ⟨At, ct, hvt⟩ := Kd.R_slice ho; subst hvt; have hlt := Kd.R_lt AE.out.hL; have hge := own_base (Kd.R_own ho).choose_spec; have HD := Aside0.mk (fun (k_ : Nat) (h1_ : some k_ = (Value.slice At t1.length ct).ownBlock) => (show (fun _ : Nat => True) k_ ∧ some k_ ≠ (Value.slice Al out.length cl).ownBlock from ⟨trivial, fun h2_ => by have a1_ := hlt k_ h2_.symm; have a2_ := hge k_ h1_.symm; omega⟩)); have HT1 := Aside0.mk (R_self (Kd.R_lower ho AE.out.hB.size)); have n0_ := Aside0.mk (AE.out.kb hM hk); clear AE ho hM hk hlt hge; have AE := n0_; clear n0_) | ((with_reducible refine gate_builtin (b := .append) (xs := #[.tmp 31, .tmp 37]) rfl ?_); at_builtin; refine Kd.R_append (Kd.slice 3 (Kd.int .i64)) (w0 := w) w.heap.size rfl (.tmp 31) (.tmp 37) 27 28 (.slice none 0 0) 24 rfl Try.underlying27 info28 rfl (by decide) (by omega) (.slice Al out.length cl) out t1 [.slice At t1.length ct] (fun _ => True) (fun k_ => some k_ = (.slice At t1.length ct : Value).ownBlock) rfl (by first | (go_simp; done) | (go_simp; rfl)) ?aP HD.out ?aF ?aO ?aB ?aS ?aL ?_; (case aP => exact ⟨_, rfl, HT1.out⟩); (case aB => exact AE.out.hB); (case aF => exact (fun _ _ => trivial)); (case aO => exact AE.out.hL); (case aS => exact AE.out.hB.size); (case aL => have := HLL.out; omega); intro v2 w10 ho hb hg hat; have hg2 : w5.grownBy w10 (Value.slice Al out.length cl).ownBlock := (by first | exact hg | exact grown_then (below_alloc (Below.refl _ _) _) hg); have n0_ := Aside0.mk (AE.out.app hb hg2 ho); clear AE ho hb hg hat hg2; have AE := n0_; clear n0_))
   go_roundg k2
   case measure => omega
   case rel => exact ⟨g1, out ++ [t1], congrArg (Value.int .i64) d1, ⟨by have := HK.out; omega⟩, HH, AE⟩
end Go.Proofs.Ytpmadffgdfholaa.B
namespace Go.Proofs.Ytpmadffgdfholaa.B
open Go.RowKit Go.Proofs.YtpmadffgdfholaaW.PrintWords Go.Proofs.YtpmadffgdfholaaW.PrintLast Go.Proofs.YtpmadffgdfholaaW.PrintMore
attribute [local go_sem] max2_int min2_int max_two min_two max_three min_three max_four min_four   -- for this text's walks alone
set_option linter.unusedVariables false
set_option linter.unusedSimpArgs false
def branch_Reach.f (k : Nat) (a0 : Int) (l1 : List (S30)) : Option (Int × Int) := (branch_read.f a0 l1).bind fun t101 => (if t101 = 0 then ((branch_town_all.f k a0 l1).bind fun t103 => ((branch_town_reach.f k a0 l1 t103).bind fun t106 => (some (t106, 0)))) else (some (0, t101)))
def branch_Entering.f (k : Nat) (a0 : Int) (l1 : List (S30)) (a2 : Int) : Option (List Int × Int) := (branch_read.f a0 l1).bind fun t107 => (if t107 = 0 then ((branch_town_isSet.f a0 l1 a2).bind fun t109 => (if t109 = true then ((branch_town_entering.f k a0 l1 a2).bind fun t110 => (some (t110, 0))) else (some (([] : List Int), 2)))) else (some (([] : List Int), t107)))
set_option maxHeartbeats 8000000 in
set_option maxRecDepth 100000 in
theorem branch_Entering.calls (k : Nat) (a0 : Int) (A1 : Option Addr) (c1 : Nat) (l1 : List (S30)) (a2 : Int) (r1 : List Int) (r2 : Int) (w : World) (hr1 : Kd.C k30 w A1 l1.length l1) (hc1 : l1.length ≤ c1) (h : branch_Entering.f k a0 l1 a2 = some (r1, r2)) :
  Calls Try.prog 33 #[.int .i64 a0, .slice A1 l1.length c1, .int .i64 a2] w fun e w' => ∃ v0_ : Value, e = .returned (.tuple #[v0_, .int .i64 r2]) ∧ Kd.R (Kd.int .i64) 3 w' w.heap.size (fun _ => True) v0_ r1 ∧ Below w.heap.size w w' := by
 have HR1 := Aside0.mk hr1
 have HC1 := Aside0.mk hc1
 clear hr1 hc1
 have HB := Aside0.mk (Below.refl w.heap.size w)
 have H : ((branch_read.f a0 l1).bind fun t107 => (if t107 = 0 then ((branch_town_isSet.f a0 l1 a2).bind fun t109 => (if t109 = true then ((branch_town_entering.f k a0 l1 a2).bind fun t110 => (some (t110, 0))) else (some (([] : List Int), 2)))) else (some (([] : List Int), t107)))) = some (r1, r2) := h
 clear h
 replace H := Option.bind_eq_some_iff.mp H
 obtain ⟨t107, A40, H⟩ := H
 replace H : (if t107 = 0 then ((branch_town_isSet.f a0 l1 a2).bind fun t109 => (if t109 = true then ((branch_town_entering.f k a0 l1 a2).bind fun t110 => (some (t110, 0))) else (some (([] : List Int), 2)))) else (some (([] : List Int), t107))) = some (r1, r2) := H
 have A4 := Aside0.mk A40
 clear A40
 by_cases c5 : t107 = 0
 ·rw [if_pos c5] at H
  have c5b0 : (t107 == 0) = true := beq_iff_eq.mpr c5
  have c5b1 : (t107 != 0) = false := bne_eq_false_iff_eq.mpr c5
  clear c5
  replace H := Option.bind_eq_some_iff.mp H
  obtain ⟨t109, A60, H⟩ := H
  replace H : (if t109 = true then ((branch_town_entering.f k a0 l1 a2).bind fun t110 => (some (t110, 0))) else (some (([] : List Int), 2))) = some (r1, r2) := H
  have A6 := Aside0.mk A60
  clear A60
  by_cases c7 : t109 = true
  ·subst c7
   have H1 : ((branch_town_entering.f k a0 l1 a2).bind fun t110 => (some (t110, 0))) = some (r1, r2) := by rw [if_pos rfl] at H; exact H
   clear H
   have H := H1
   clear H1
   replace H := Option.bind_eq_some_iff.mp H
   obtain ⟨t110, A80, H⟩ := H
   replace H : (some (t110, 0)) = some (r1, r2) := H
   have A8 := Aside0.mk A80
   clear A80
   simp only [Option.some.injEq, Prod.mk.injEq] at H
   obtain ⟨rfl, rfl⟩ := H
   go_enter Try.func33, Try.ntmps33
   go_wp2_with (first | (go_at_call 44; (with_reducible refine (branch_read.calls_ok a0 A1 c1 l1 t107 _ ?side1 ?side2 A4.out (by first | (with_reducible assumption) | assumption)).mono ?_); (case side1 => repeat (first | exact HR1.out | (with_reducible refine Kd.C_alloc ?_ _) | (with_reducible refine Kd.C_drewN ?_ _) | (with_reducible refine Kd.C_drew ?_))); (case side2 => exact HC1.out); rintro e w9 ⟨gb108, mr108, rfl, hg, hbox, hb⟩; have n0_ := Aside0.mk (below_step (by repeat (first | (with_reducible first | exact HB.out | apply below_alloc | apply pw_below_drewN | apply below_drew1) | exact HB.out)) hb); have n1_ := Aside0.mk (hbox); have n2_ := Aside0.mk ((Nat.le_trans (below_size (by repeat (first | (with_reducible first | exact HB.out | apply below_alloc | apply pw_below_drewN | apply below_drew1) | exact HB.out))) hg : w.heap.size ≤ gb108)); have n3_ := Aside0.mk ((Nat.le_trans (below_size (by repeat (first | (with_reducible first | exact HB.out | apply below_alloc | apply pw_below_drewN | apply below_drew1) | exact HB.out))) hg : w.heap.size ≤ gb108)); clear HB; have HB := n0_; have BK108 := n1_; have GW108 := n2_; have GE108 := n3_; clear n0_ n1_ n2_ n3_; clear hb hbox hg) | ((with_reducible refine gate_callee (f := 58) rfl ?_); refine goesL_ (some 23) rfl rfl Try.func58 (by kernel_rfl) rfl #[.pointer (some ⟨gb108, 0, none⟩), .int .i64 a2] rfl (by (try simp only [List.map_toArray, List.map_cons, List.map_nil]); first | done | rfl | (simp only [List.length_drop, List.length_take]; rfl)) ?_; (with_reducible refine (branch_town_isSet.calls gb108 a0 A1 c1 l1 mr108 a2 true _ ?side1 ?side2 ?side3 A6.out).mono ?_); (case side1 => exact by (with_reducible repeat (first | refine blk_drewN ?_ _ | refine blk_drew ?_ | refine blk_alloc ?_ _)); exact BK108.out); (case side2 => repeat (first | exact (Kd.C_below HR1.out HB.out) | (with_reducible refine Kd.C_alloc ?_ _) | (with_reducible refine Kd.C_drewN ?_ _) | (with_reducible refine Kd.C_drew ?_))); (case side3 => exact HC1.out); rintro e w' ⟨rfl, ⟨nd, rfl⟩⟩; refine ⟨_, rfl, ?_⟩) | ((with_reducible refine gate_callee (f := 59) rfl ?_); refine goesL_ (some 27) rfl rfl Try.func59 (by kernel_rfl) rfl #[.pointer (some ⟨gb108, 0, none⟩), .int .i64 a2] rfl (by (try simp only [List.map_toArray, List.map_cons, List.map_nil]); first | done | rfl | (simp only [List.length_drop, List.length_take]; rfl)) ?_; (with_reducible refine (branch_town_entering.calls k gb108 a0 A1 c1 l1 mr108 a2 t110 _ ?side1 ?side2 ?side3 A8.out).mono ?_); (case side1 => exact by (with_reducible repeat (first | refine blk_drewN ?_ _ | refine blk_drew ?_ | refine blk_alloc ?_ _)); exact BK108.out); (case side2 => repeat (first | exact (Kd.C_below HR1.out (by repeat (first | (with_reducible first | exact HB.out | apply below_alloc | apply pw_below_drewN | apply below_drew1 | refine below_set ?_ GE108.out) | exact HB.out))) | (with_reducible refine Kd.C_alloc ?_ _) | (with_reducible refine Kd.C_drewN ?_ _) | (with_reducible refine Kd.C_drew ?_))); (case side3 => exact HC1.out); rintro e w10 ⟨v111, rfl, ho0, hb⟩; refine ⟨_, rfl, ?_⟩; have n0_ := Aside0.mk (Kd.R_lower ho0 (below_size (by repeat (first | (with_reducible first | exact HB.out | apply below_alloc | apply pw_below_drewN | apply below_drew1 | refine below_set ?_ GE108.out) | exact HB.out)))); have n1_ := Aside0.mk (blk_below (g := gb108) (o := .cells #[.int .i64 a0, .slice A1 l1.length c1, .map mr108] 70 (0, 0)) (by (with_reducible repeat (first | refine blk_drewN ?_ _ | refine blk_drew ?_ | refine blk_alloc ?_ _)); exact BK108.out) hb); have n2_ := Aside0.mk (below_step (by repeat (first | (with_reducible first | exact HB.out | apply below_alloc | apply pw_below_drewN | apply below_drew1 | refine below_set ?_ GE108.out) | exact HB.out)) hb); clear BK108; clear HB; have HO112 := n0_; have BK108 := n1_; have HB := n2_; clear n0_ n1_ n2_; (try clear hb); (try clear hb2); (try clear hk); (try clear hi); (try clear ho0)))
   go_ret2
   exact ⟨_, by first | rfl | (simp [errW_none, errW_some] <;> rfl) | (simp [*, errW_none, errW_some] <;> rfl), by (with_reducible repeat (first | apply Kd.R_alloc | apply Kd.R_drewN | apply Kd.R_drew)); exact HO112.out, by repeat (first | (with_reducible first | exact HB.out | apply below_alloc | apply pw_below_drewN | apply below_drew1 | refine below_set ?_ GE108.out) | exact HB.out)⟩
  ·replace c7 := Bool.eq_false_iff.mpr c7
   subst c7
   have H1 : (some (([] : List Int), 2)) = some (r1, r2) := by rw [if_neg (show ¬ (false = true) by decide)] at H; exact H
   clear H
   have H := H1
   clear H1
   simp only [Option.some.injEq, Prod.mk.injEq] at H
   obtain ⟨rfl, rfl⟩ := H
   go_enter Try.func33, Try.ntmps33
   go_wp2_with (first | (go_at_call 44; (with_reducible refine (branch_read.calls_ok a0 A1 c1 l1 t107 _ ?side1 ?side2 A4.out (by first | (with_reducible assumption) | assumption)).mono ?_); (case side1 => repeat (first | exact HR1.out | (with_reducible refine Kd.C_alloc ?_ _) | (with_reducible refine Kd.C_drewN ?_ _) | (with_reducible refine Kd.C_drew ?_))); (case side2 => exact HC1.out); rintro e w11 ⟨gb108, mr108, rfl, hg, hbox, hb⟩; have n0_ := Aside0.mk (below_step (by repeat (first | (with_reducible first | exact HB.out | apply below_alloc | apply pw_below_drewN | apply below_drew1) | exact HB.out)) hb); have n1_ := Aside0.mk (hbox); have n2_ := Aside0.mk ((Nat.le_trans (below_size (by repeat (first | (with_reducible first | exact HB.out | apply below_alloc | apply pw_below_drewN | apply below_drew1) | exact HB.out))) hg : w.heap.size ≤ gb108)); have n3_ := Aside0.mk ((Nat.le_trans (below_size (by repeat (first | (with_reducible first | exact HB.out | apply below_alloc | apply pw_below_drewN | apply below_drew1) | exact HB.out))) hg : w.heap.size ≤ gb108)); clear HB; have HB := n0_; have BK108 := n1_; have GW108 := n2_; have GE108 := n3_; clear n0_ n1_ n2_ n3_; clear hb hbox hg) | ((with_reducible refine gate_callee (f := 58) rfl ?_); refine goesL_ (some 23) rfl rfl Try.func58 (by kernel_rfl) rfl #[.pointer (some ⟨gb108, 0, none⟩), .int .i64 a2] rfl (by (try simp only [List.map_toArray, List.map_cons, List.map_nil]); first | done | rfl | (simp only [List.length_drop, List.length_take]; rfl)) ?_; (with_reducible refine (branch_town_isSet.calls gb108 a0 A1 c1 l1 mr108 a2 false _ ?side1 ?side2 ?side3 A6.out).mono ?_); (case side1 => exact by (with_reducible repeat (first | refine blk_drewN ?_ _ | refine blk_drew ?_ | refine blk_alloc ?_ _)); exact BK108.out); (case side2 => repeat (first | exact (Kd.C_below HR1.out HB.out) | (with_reducible refine Kd.C_alloc ?_ _) | (with_reducible refine Kd.C_drewN ?_ _) | (with_reducible refine Kd.C_drew ?_))); (case side3 => exact HC1.out); rintro e w' ⟨rfl, ⟨nd, rfl⟩⟩; refine ⟨_, rfl, ?_⟩))
   go_ret2
   exact ⟨_, by first | rfl | (simp [errW_none, errW_some] <;> rfl) | (simp [*, errW_none, errW_some] <;> rfl), by first | exact Kd.R_nil _ _ _ _ _ | exact Kd.N_nil _ _ _ _ _ | exact Kd.V_nil _ _ _ _ _ | exact Kd.Q_nil _ _ _ _ _ | exact Kd.S_nil _ _ _ _ _, by repeat (first | (with_reducible first | exact HB.out | apply below_alloc | apply pw_below_drewN | apply below_drew1 | refine below_set ?_ GE108.out) | exact HB.out)⟩
 ·rw [if_neg c5] at H
  have c5b0 : (t107 == 0) = false := beq_eq_false_iff_ne.mpr c5
  have c5b1 : (t107 != 0) = true := bne_iff_ne.mpr c5
  simp only [Option.some.injEq, Prod.mk.injEq] at H
  obtain ⟨rfl, rfl⟩ := H
  go_enter Try.func33, Try.ntmps33
  go_wp2_with (first | (go_at_call 44; (with_reducible refine (branch_read.calls_err a0 A1 c1 l1 t107 _ ?side1 ?side2 A4.out (by first | (with_reducible assumption) | assumption)).mono ?_); (case side1 => repeat (first | exact HR1.out | (with_reducible refine Kd.C_alloc ?_ _) | (with_reducible refine Kd.C_drewN ?_ _) | (with_reducible refine Kd.C_drew ?_))); (case side2 => exact HC1.out); rintro e w12 ⟨rfl, hb⟩; have n0_ := Aside0.mk (below_step (by repeat (first | (with_reducible first | exact HB.out | apply below_alloc | apply pw_below_drewN | apply below_drew1) | exact HB.out)) hb); clear HB; have HB := n0_; clear n0_; (try clear hb)))
  go_ret2
  exact ⟨_, by first | rfl | (simp [errW_none, errW_some] <;> rfl) | (simp [*, errW_none, errW_some] <;> rfl), by first | exact Kd.R_nil _ _ _ _ _ | exact Kd.N_nil _ _ _ _ _ | exact Kd.V_nil _ _ _ _ _ | exact Kd.Q_nil _ _ _ _ _ | exact Kd.S_nil _ _ _ _ _, by repeat (first | (with_reducible first | exact HB.out | apply below_alloc | apply pw_below_drewN | apply below_drew1) | exact HB.out)⟩
def branch_Is.f (k : Nat) (a0 : Int) (l1 : List (S30)) (l2 : List Int) : Option (Int × Bool × Int) := (branch_read.f a0 l1).bind fun t113 => (if t113 = 0 then ((branch_town_is.f k a0 l1 l2).bind fun bt115 => (some (bt115.1, bt115.2, 0))) else (some (0, false, t113)))
set_option maxHeartbeats 8000000 in
set_option maxRecDepth 100000 in
theorem branch_Is.calls (k : Nat) (a0 : Int) (A1 : Option Addr) (c1 : Nat) (l1 : List (S30)) (A2 : Option Addr) (c2 : Nat) (l2 : List Int) (r1 : Int) (r2 : Bool) (r3 : Int) (w : World) (hr1 : Kd.C k30 w A1 l1.length l1) (hc1 : l1.length ≤ c1) (hr2 : Kd.C (Kd.int .i64) w A2 l2.length l2) (hc2 : l2.length ≤ c2) (h : branch_Is.f k a0 l1 l2 = some (r1, r2, r3)) :
  Calls Try.prog 35 #[.int .i64 a0, .slice A1 l1.length c1, .slice A2 l2.length c2] w fun e w' => e = .returned (.tuple #[.int .i64 r1, .bool r2, .int .i64 r3]) ∧ Below w.heap.size w w' := by
 have HR1 := Aside0.mk hr1
 have HC1 := Aside0.mk hc1
 clear hr1 hc1
 have HR2 := Aside0.mk hr2
 have HC2 := Aside0.mk hc2
 clear hr2 hc2
 have HB := Aside0.mk (Below.refl w.heap.size w)
 have H : ((branch_read.f a0 l1).bind fun t113 => (if t113 = 0 then ((branch_town_is.f k a0 l1 l2).bind fun bt115 => (some (bt115.1, bt115.2, 0))) else (some (0, false, t113)))) = some (r1, r2, r3) := h
 clear h
 replace H := Option.bind_eq_some_iff.mp H
 obtain ⟨t113, A40, H⟩ := H
 replace H : (if t113 = 0 then ((branch_town_is.f k a0 l1 l2).bind fun bt115 => (some (bt115.1, bt115.2, 0))) else (some (0, false, t113))) = some (r1, r2, r3) := H
 have A4 := Aside0.mk A40
 clear A40
 by_cases c5 : t113 = 0
 ·rw [if_pos c5] at H
  have c5b0 : (t113 == 0) = true := beq_iff_eq.mpr c5
  have c5b1 : (t113 != 0) = false := bne_eq_false_iff_eq.mpr c5
  clear c5
  replace H := Option.bind_eq_some_iff.mp H
  obtain ⟨⟨t115, t116⟩, A60, H⟩ := H
  replace H : (some (t115, t116, 0)) = some (r1, r2, r3) := H
  have A6 := Aside0.mk A60
  clear A60
  simp only [Option.some.injEq, Prod.mk.injEq] at H
  obtain ⟨rfl, rfl, rfl⟩ := H
  go_enter Try.func35, Try.ntmps35
  go_wp2_with (first | (go_at_call 44; (with_reducible refine (branch_read.calls_ok a0 A1 c1 l1 t113 _ ?side1 ?side2 A4.out (by first | (with_reducible assumption) | assumption)).mono ?_); (case side1 => repeat (first | exact HR1.out | (with_reducible refine Kd.C_alloc ?_ _) | (with_reducible refine Kd.C_drewN ?_ _) | (with_reducible refine Kd.C_drew ?_))); (case side2 => exact HC1.out); rintro e w7 ⟨gb114, mr114, rfl, hg, hbox, hb⟩; have n0_ := Aside0.mk (below_step (by repeat (first | (with_reducible first | exact HB.out | apply below_alloc | apply pw_below_drewN | apply below_drew1) | exact HB.out)) hb); have n1_ := Aside0.mk (hbox); have n2_ := Aside0.mk ((Nat.le_trans (below_size (by repeat (first | (with_reducible first | exact HB.out | apply below_alloc | apply pw_below_drewN | apply below_drew1) | exact HB.out))) hg : w.heap.size ≤ gb114)); have n3_ := Aside0.mk ((Nat.le_trans (below_size (by repeat (first | (with_reducible first | exact HB.out | apply below_alloc | apply pw_below_drewN | apply below_drew1) | exact HB.out))) hg : w.heap.size ≤ gb114)); clear HB; have HB := n0_; have BK114 := n1_; have GW114 := n2_; have GE114 := n3_; clear n0_ n1_ n2_ n3_; clear hb hbox hg) | ((with_reducible refine gate_callee (f := 61) rfl ?_); refine goesL_ (some 25) rfl rfl Try.func61 (by kernel_rfl) rfl #[.pointer (some ⟨gb114, 0, none⟩), .slice A2 l2.length c2] rfl (by (try simp only [List.map_toArray, List.map_cons, List.map_nil]); first | done | rfl | (simp only [List.length_drop, List.length_take]; rfl)) ?_; (with_reducible refine (branch_town_is.calls k gb114 a0 A1 c1 l1 mr114 _ _ l2 t115 t116 _ ?side1 ?side2 ?side3 ?side4 ?side5 A6.out).mono ?_); (case side1 => exact by (with_reducible repeat (first | refine blk_drewN ?_ _ | refine blk_drew ?_ | refine blk_alloc ?_ _)); exact BK114.out); (case side2 => repeat (first | exact (Kd.C_below HR1.out HB.out) | (with_reducible refine Kd.C_alloc ?_ _) | (with_reducible refine Kd.C_drewN ?_ _) | (with_reducible refine Kd.C_drew ?_))); (case side3 => exact HC1.out); (case side4 => repeat (first | exact (Kd.C_below HR2.out HB.out) | (with_reducible refine Kd.C_alloc ?_ _) | (with_reducible refine Kd.C_drewN ?_ _) | (with_reducible refine Kd.C_drew ?_))); (case side5 => exact HC2.out); rintro e w8 ⟨rfl, hb⟩; refine ⟨_, rfl, ?_⟩; have n0_ := Aside0.mk (blk_below (g := gb114) (o := .cells #[.int .i64 a0, .slice A1 l1.length c1, .map mr114] 70 (0, 0)) (by (with_reducible repeat (first | refine blk_drewN ?_ _ | refine blk_drew ?_ | refine blk_alloc ?_ _)); exact BK114.out) hb); have n1_ := Aside0.mk (below_step (by repeat (first | (with_reducible first | exact HB.out | apply below_alloc | apply pw_below_drewN | apply below_drew1 | refine below_set ?_ GE114.out) | exact HB.out)) hb); clear BK114; clear HB; have BK114 := n0_; have HB := n1_; clear n0_ n1_; (try clear hb); (try clear hb2); (try clear hk); (try clear hi)))
  go_ret3
  exact ⟨by first | rfl | (simp [errW_none, errW_some] <;> rfl) | (simp [*, errW_none, errW_some] <;> rfl), by repeat (first | (with_reducible first | exact HB.out | apply below_alloc | apply pw_below_drewN | apply below_drew1 | refine below_set ?_ GE114.out) | exact HB.out)⟩
 ·rw [if_neg c5] at H
  have c5b0 : (t113 == 0) = false := beq_eq_false_iff_ne.mpr c5
  have c5b1 : (t113 != 0) = true := bne_iff_ne.mpr c5
  simp only [Option.some.injEq, Prod.mk.injEq] at H
  obtain ⟨rfl, rfl, rfl⟩ := H
  go_enter Try.func35, Try.ntmps35
  go_wp2_with (first | (go_at_call 44; (with_reducible refine (branch_read.calls_err a0 A1 c1 l1 t113 _ ?side1 ?side2 A4.out (by first | (with_reducible assumption) | assumption)).mono ?_); (case side1 => repeat (first | exact HR1.out | (with_reducible refine Kd.C_alloc ?_ _) | (with_reducible refine Kd.C_drewN ?_ _) | (with_reducible refine Kd.C_drew ?_))); (case side2 => exact HC1.out); rintro e w9 ⟨rfl, hb⟩; have n0_ := Aside0.mk (below_step (by repeat (first | (with_reducible first | exact HB.out | apply below_alloc | apply pw_below_drewN | apply below_drew1) | exact HB.out)) hb); clear HB; have HB := n0_; clear n0_; (try clear hb)))
  go_ret3
  exact ⟨by first | rfl | (simp [errW_none, errW_some] <;> rfl) | (simp [*, errW_none, errW_some] <;> rfl), by repeat (first | (with_reducible first | exact HB.out | apply below_alloc | apply pw_below_drewN | apply below_drew1) | exact HB.out)⟩
end Go.Proofs.Ytpmadffgdfholaa.B
namespace Go.Proofs.Ytpmadffgdfholaa.B
open Go.RowKit Go.Proofs.YtpmadffgdfholaaW.PrintWords Go.Proofs.YtpmadffgdfholaaW.PrintLast Go.Proofs.YtpmadffgdfholaaW.PrintMore
attribute [local go_sem] max2_int min2_int max_two min_two max_three min_three max_four min_four   -- for this text's walks alone
set_option linter.unusedVariables false
set_option linter.unusedSimpArgs false
mutual
def branch_Count.l0 : Nat → Int → List (List Int) → Int → Int → Int → List (S30) → Option (Int × Int)
  | 0, _, _, _, _, _, _ => none
  | k + 1, x0, x8, x25, x26, x119000, x119001 => if x26 < x25 then (if 0 ≤ (wrap64 (x0 - 1)) then (if (wrap64 (x0 - 1) : Int).toNat ≤ 35184372088832 then (if 0 ≤ x26 then (if x26 < (x8.length : Int) then (branch_Count.l0 k x0 (x8.set (x26 : Int).toNat (List.replicate (wrap64 (x0 - 1) : Int).toNat 0)) x25 (wrap64 (x26 + 1)) x119000 x119001) else (none)) else (none)) else (none)) else (none)) else (branch_Count.l1 k x8 x119001 (x119001.length : Int) 0)
def branch_Count.l1 : Nat → List (List Int) → List (S30) → Int → Int → Option (Int × Int)
  | 0, _, _, _, _ => none
  | k + 1, x8, x39, x40, x41 => if x41 < x40 then (if 0 ≤ x41 then (if x41 < (x39.length : Int) then (if ((rd_T30 x39 x41).f1) > 0 then (if 0 ≤ (wrap64 (((rd_T30 x39 x41).f1) - 1)) then (if (wrap64 (((rd_T30 x39 x41).f1) - 1)) < (x8.length : Int) then (if (wrap64 (((rd_T30 x39 x41).f1) - 1)) < ((rd_L12 x8 (wrap64 (((rd_T30 x39 x41).f1) - 1))).length : Int) then ((some (x8.set ((wrap64 (((rd_T30 x39 x41).f1) - 1)) : Int).toNat ((rd_L12 x8 (wrap64 (((rd_T30 x39 x41).f1) - 1))).set ((wrap64 (((rd_T30 x39 x41).f1) - 1)) : Int).toNat (wrap64 ((rd (rd_L12 x8 (wrap64 (((rd_T30 x39 x41).f1) - 1))) (wrap64 (((rd_T30 x39 x41).f1) - 1))) + 1))) : List (List Int))).bind fun y133 => (if ((rd_T30 x39 x41).f0) > 0 then (if 0 ≤ (wrap64 (((rd_T30 x39 x41).f0) - 1)) then (if (wrap64 (((rd_T30 x39 x41).f0) - 1)) < (x8.length : Int) then (if (wrap64 (((rd_T30 x39 x41).f1) - 1)) < ((rd_L12 y133 (wrap64 (((rd_T30 x39 x41).f0) - 1))).length : Int) then (branch_Count.l1 k (y133.set ((wrap64 (((rd_T30 x39 x41).f0) - 1)) : Int).toNat ((rd_L12 y133 (wrap64 (((rd_T30 x39 x41).f0) - 1))).set ((wrap64 (((rd_T30 x39 x41).f1) - 1)) : Int).toNat (wrap64 ((rd (rd_L12 y133 (wrap64 (((rd_T30 x39 x41).f0) - 1))) (wrap64 (((rd_T30 x39 x41).f1) - 1))) - 1)))) x39 x40 (wrap64 (x41 + 1))) else (none)) else (none)) else (none)) else (branch_Count.l1 k y133 x39 x40 (wrap64 (x41 + 1))))) else (none)) else (none)) else (none)) else (branch_Count.l1 k x8 x39 x40 (wrap64 (x41 + 1)))) else (none)) else (none)) else ((branch_determinant.f k x8).bind fun t126 => (some (t126, 0)))
end
def branch_Count.f (k : Nat) (a0 : Int) (l1 : List (S30)) : Option (Int × Int) := (branch_read.f a0 l1).bind fun t117 => (if t117 = 0 then (if 0 ≤ (wrap64 (a0 - 1)) then (if (wrap64 (a0 - 1) : Int).toNat ≤ 11728124029610 then ((some (List.replicate (wrap64 (a0 - 1) : Int).toNat [] : List (List Int))).bind fun y119 => (branch_Count.l0 k a0 y119 (y119.length : Int) 0 a0 l1)) else (none)) else (none)) else (some (0, t117)))
theorem branch_Count.mono_l : ∀ k, (∀ y0 y1 y2 y3 y4 y5, LeO (branch_Count.l0 k y0 y1 y2 y3 y4 y5) (branch_Count.l0 (k + 1) y0 y1 y2 y3 y4 y5)) ∧ (∀ y0 y1 y2 y3, LeO (branch_Count.l1 k y0 y1 y2 y3) (branch_Count.l1 (k + 1) y0 y1 y2 y3))
  | 0 => ⟨fun _ _ _ _ _ _ r h => by simp [branch_Count.l0] at h, fun _ _ _ _ r h => by simp [branch_Count.l1] at h⟩
  | k + 1 => by
    obtain ⟨ih0, ih1⟩ := branch_Count.mono_l k
    refine ⟨?_, ?_⟩
    · intro y0 y1 y2 y3 y4 y5
      unfold branch_Count.l0
      repeat' first
      | (with_reducible exact ih0 _ _ _ _ _ _)
      | (with_reducible exact ih1 _ _ _ _)
      | (with_reducible exact branch_determinant.mono _ _)
      | (with_reducible exact LeO.refl _)
      | (with_reducible exact LeO.none _)
      | (with_reducible refine LeO.ite ?_ ?_)
      | (with_reducible refine LeO.bind ?_ (fun _ => ?_))
      | exact ih0 _ _ _ _ _ _
      | exact ih1 _ _ _ _
      | exact branch_determinant.mono _ _
      | exact LeO.none _
      | refine LeO.ite ?_ ?_
      | refine LeO.bind ?_ (fun _ => ?_)
    · intro y0 y1 y2 y3
      unfold branch_Count.l1
      repeat' first
      | (with_reducible exact ih0 _ _ _ _ _ _)
      | (with_reducible exact ih1 _ _ _ _)
      | (with_reducible exact branch_determinant.mono _ _)
      | (with_reducible exact LeO.refl _)
      | (with_reducible exact LeO.none _)
      | (with_reducible refine LeO.ite ?_ ?_)
      | (with_reducible refine LeO.bind ?_ (fun _ => ?_))
      | exact ih0 _ _ _ _ _ _
      | exact ih1 _ _ _ _
      | exact branch_determinant.mono _ _
      | exact LeO.none _
      | refine LeO.ite ?_ ?_
      | refine LeO.bind ?_ (fun _ => ?_)
theorem branch_Count.mono : ∀ a0 a1 k, LeO (branch_Count.f k a0 a1) (branch_Count.f (k + 1) a0 a1) := by
  intro a0 a1 k
  obtain ⟨ih0, ih1⟩ := branch_Count.mono_l k
  unfold branch_Count.f
  repeat' first
      | (with_reducible exact ih0 _ _ _ _ _ _)
      | (with_reducible exact ih1 _ _ _ _)
      | (with_reducible exact branch_determinant.mono _ _)
      | (with_reducible exact LeO.refl _)
      | (with_reducible exact LeO.none _)
      | (with_reducible refine LeO.ite ?_ ?_)
      | (with_reducible refine LeO.bind ?_ (fun _ => ?_))
      | exact ih0 _ _ _ _ _ _
      | exact ih1 _ _ _ _
      | exact branch_determinant.mono _ _
      | exact LeO.none _
      | refine LeO.ite ?_ ?_
      | refine LeO.bind ?_ (fun _ => ?_)
def branch_Count.T14 : Bool × List (List Nat × List Nat) := (true, [([], []), ([], []), ([1], [1]), ([2], [2]), ([0, 3], [0, 3]), ([4], [4]), ([], []), ([6], [6]), ([7], [7]), ([5, 8], [5, 8]), ([9], [9]), ([10], [10]), ([5, 8, 0, 1, 2, 3, 4, 5, 6, 7, 8, 9, 10, 11], [5, 8]), ([12, 11, 0, 1, 2, 3, 4, 5, 6, 7, 8, 9, 10, 11], [11, 12])])
def branch_Count.B14 : List Nat := [0, 0, 2, 6, 15, 31, 0, 64, 192, 511, 1023, 2047, 4095, 8191]
theorem branch_Count.tab14 : rtab .any (opsOf Try.f18 14) = branch_Count.T14 := by kernel_rfl
theorem branch_Count.bits14 : waitsOk branch_Count.T14.2 branch_Count.B14 = true := by kernel_rfl
def branch_Count.T16 : Bool × List (List Nat × List Nat) := (true, [([], []), ([], []), ([1], [1]), ([2], [2]), ([0, 3], [0, 3]), ([4], [4]), ([], []), ([6], [6]), ([7], [7]), ([5, 8], [5, 8]), ([9], [9]), ([10], [10]), ([5, 8, 0, 1, 2, 3, 4, 5, 6, 7, 8, 9, 10, 11], [5, 8]), ([12, 11, 0, 1, 2, 3, 4, 5, 6, 7, 8, 9, 10, 11], [11, 12])])
def branch_Count.B16 : List Nat := [0, 0, 2, 6, 15, 31, 0, 64, 192, 511, 1023, 2047, 4095, 8191]
theorem branch_Count.tab16 : rtab .any (opsOf Try.f18 16) = branch_Count.T16 := by kernel_rfl
theorem branch_Count.bits16 : waitsOk branch_Count.T16.2 branch_Count.B16 = true := by kernel_rfl
set_option maxHeartbeats 8000000 in
set_option maxRecDepth 100000 in
theorem branch_Count.calls (k : Nat) (a0 : Int) (A1 : Option Addr) (c1 : Nat) (l1 : List (S30)) (r1 : Int) (r2 : Int) (w : World) (hr1 : Kd.C k30 w A1 l1.length l1) (hc1 : l1.length ≤ c1) (h : branch_Count.f k a0 l1 = some (r1, r2)) :
  Calls Try.prog 18 #[.int .i64 a0, .slice A1 l1.length c1] w fun e w' => e = .returned (.tuple #[.int .i64 r1, .int .i64 r2]) ∧ Below w.heap.size w w' := by
 have hu30 := Try.underlying30
 have HR1 := Aside0.mk hr1
 have HC1 := Aside0.mk hc1
 clear hr1 hc1
 have HB := Aside0.mk (Below.refl w.heap.size w)
 have H : ((branch_read.f a0 l1).bind fun t117 => (if t117 = 0 then (if 0 ≤ (wrap64 (a0 - 1)) then (if (wrap64 (a0 - 1) : Int).toNat ≤ 11728124029610 then ((some (List.replicate (wrap64 (a0 - 1) : Int).toNat [] : List (List Int))).bind fun y119 => (branch_Count.l0 k a0 y119 (y119.length : Int) 0 a0 l1)) else (none)) else (none)) else (some (0, t117)))) = some (r1, r2) := h
 clear h
 replace H := Option.bind_eq_some_iff.mp H
 obtain ⟨t117, A30, H⟩ := H
 replace H : (if t117 = 0 then (if 0 ≤ (wrap64 (a0 - 1)) then (if (wrap64 (a0 - 1) : Int).toNat ≤ 11728124029610 then ((some (List.replicate (wrap64 (a0 - 1) : Int).toNat [] : List (List Int))).bind fun y119 => (branch_Count.l0 k a0 y119 (y119.length : Int) 0 a0 l1)) else (none)) else (none)) else (some (0, t117))) = some (r1, r2) := H
 have A3 := Aside0.mk A30
 clear A30
 by_cases c4 : t117 = 0
 ·rw [if_pos c4] at H
  have c4b0 : (t117 == 0) = true := beq_iff_eq.mpr c4
  have c4b1 : (t117 != 0) = false := bne_eq_false_iff_eq.mpr c4
  clear c4
  obtain ⟨ji5, hji5⟩ : ∃ j_ : Int, (wrap64 (a0 - 1)) = j_ := ⟨_, rfl⟩
  replace H : (if 0 ≤ (ji5) then (if (ji5 : Int).toNat ≤ 11728124029610 then ((some (List.replicate (ji5 : Int).toNat [] : List (List Int))).bind fun y119 => (branch_Count.l0 k a0 y119 (y119.length : Int) 0 a0 l1)) else (none)) else (none)) = some (r1, r2) := by first | (rw [hji5] at H; exact H) | (simp only [hji5] at H ⊢; exact H)
  (try rw [hji5] at A3)
  have hji5w : (IntKind.i64.wrap (a0 - 1)) = ji5 := (i64_w _).trans hji5
  by_cases c6 : 0 ≤ (ji5)
  ·rw [if_pos c6] at H
   have c6b0 := eq_true c6
   have c6b1 : decide (0 ≤ (ji5)) = true := decide_eq_true c6
   clear c6
   by_cases c7 : (ji5 : Int).toNat ≤ 11728124029610
   ·rw [if_pos c7] at H
    have c7b0 := eq_true c7
    have c7b1 : decide ((ji5 : Int).toNat ≤ 11728124029610) = true := decide_eq_true c7
    clear c7
    obtain ⟨y119, hy119⟩ : ∃ y_ : List (List Int), y_ = (List.replicate (ji5 : Int).toNat []) := ⟨_, rfl⟩
    replace H : (branch_Count.l0 k a0 y119 (y119.length : Int) 0 a0 l1) = some (r1, r2) := by first | (rw [hy119]; with_reducible exact H) | (have H2_ := (Option.bind_some _ _).symm.trans H; rw [hy119]; with_reducible exact H2_) | (have H2_ := (Option.bind_some _ _).symm.trans H; with_reducible exact H2_) | with_reducible exact H | (rw [hy119]; exact H) | exact H
    have Ny119 := Aside0.mk hy119
    clear hy119
    have H' := Aside0.mk H
    clear H
    go_enter Try.func18, Try.ntmps18
    go_wp2_with (first | (go_at_call 44; (with_reducible refine (branch_read.calls_ok a0 A1 c1 l1 t117 _ ?side1 ?side2 A3.out (by first | (with_reducible assumption) | assumption)).mono ?_); (case side1 => repeat (first | exact HR1.out | (with_reducible refine Kd.C_alloc ?_ _) | (with_reducible refine Kd.C_drewN ?_ _) | (with_reducible refine Kd.C_drew ?_))); (case side2 => exact HC1.out); rintro e w8 ⟨gb118, mr118, rfl, hg, hbox, hb⟩; have n0_ := Aside0.mk (below_step (by repeat (first | (with_reducible first | exact HB.out | apply below_alloc | apply pw_below_drewN | apply below_drew1) | exact HB.out)) hb); have n1_ := Aside0.mk (hbox); have n2_ := Aside0.mk ((Nat.le_trans (below_size (by repeat (first | (with_reducible first | exact HB.out | apply below_alloc | apply pw_below_drewN | apply below_drew1) | exact HB.out))) hg : w.heap.size ≤ gb118)); have n3_ := Aside0.mk ((Nat.le_trans (below_size (by repeat (first | (with_reducible first | exact HB.out | apply below_alloc | apply pw_below_drewN | apply below_drew1) | exact HB.out))) hg : w.heap.size ≤ gb118)); clear HB; have HB := n0_; have BK118 := n1_; have GW118 := n2_; have GE118 := n3_; clear n0_ n1_ n2_ n3_; clear hb hbox hg) | ((with_reducible refine gate_dst (N := 23) rfl ?_); refine Kd.S_make (Kd.slice 3 (Kd.int .i64)) _ 28 rfl (N := 23) rfl 27 _ _ rfl ji5 rfl rfl Try.underlying27 (.slice none 0 0) 24 info28 rfl (by decide) (by omega) [] (ok := fun _ => True) (okp := fun _ => True) ⟨_, rfl, Kd.R_nil _ _ _ _ _⟩ (fun _ hk => hk) trivial (of_decide_eq_true (by first | (with_reducible assumption) | assumption)) (Nat.le_trans (Nat.mul_le_mul_right _ (of_decide_eq_true (by first | (with_reducible assumption) | assumption) : ji5.toNat ≤ 11728124029610)) (by omega)) (Below.refl _ _) (Nat.le_refl _) ?_; intro v120 w9 ho10 hb hg_ hnew_; clear hg_ hnew_; (first | rw [← Ny119.out] at ho10 | (simp only [Int.reduceToNat] at ho10; rw [← Ny119.out] at ho10)); have n0_ := Aside0.mk (Kd.S_lower ho10 (below_size (by repeat (first | (with_reducible first | exact HB.out | apply below_alloc | apply pw_below_drewN | apply below_drew1 | refine below_set ?_ GE118.out) | exact HB.out)))); have n1_ := Aside0.mk (blk_below (g := gb118) (o := .cells #[.int .i64 a0, .slice A1 l1.length c1, .map mr118] 70 (0, 0)) (by (with_reducible repeat (first | refine blk_drewN ?_ _ | refine blk_drew ?_ | refine blk_alloc ?_ _)); exact BK118.out) hb); have n2_ := Aside0.mk (below_step (by repeat (first | (with_reducible first | exact HB.out | apply below_alloc | apply pw_below_drewN | apply below_drew1 | refine below_set ?_ GE118.out) | exact HB.out)) hb); clear BK118; clear HB; have HO121 := n0_; have BK118 := n1_; have HB := n2_; clear n0_ n1_ n2_; clear hb ho10; obtain ⟨Ao11, co11, eo11⟩ := Kd.S_slice HO121.out; subst eo11))
    go_loopg [26] k (fun kq v26 w' => ∃ (x8_1 : List (List Int)) (x26_1 : Int), v26 = .int .i64 x26_1 ∧ Aside0 (branch_Count.l0 kq a0 x8_1 (y119.length : Int) x26_1 a0 l1 = some (r1, r2)) ∧ Aside0 (kq ≤ k) ∧ Aside0 (Kd.S (Kd.slice 3 (Kd.int .i64)) 28 w' w.heap.size (fun _ => True) (.slice Ao11 y119.length co11) x8_1) ∧ Aside0 (w'.heap[gb118]? = some (.cells #[.int .i64 a0, (.slice A1 l1.length c1), .map mr118] 70 (0, 0))) ∧ Aside0 (Below w.heap.size w w'))
    case atStart => exact ⟨(y119), (0), (by first | rfl | (simp; done) | (simp [*]; done)), H', ⟨Nat.le_refl _⟩, ⟨by (with_reducible repeat (first | apply Kd.S_alloc | apply Kd.S_drewN | apply Kd.S_drew)); exact HO121.out⟩, ⟨by (with_reducible repeat (first | refine blk_drewN ?_ _ | refine blk_drew ?_ | refine blk_alloc ?_ _)); exact BK118.out⟩, ⟨by repeat (first | (with_reducible first | exact HB.out | apply below_alloc | apply pw_below_drewN | apply below_drew1 | refine below_set ?_ GE118.out) | exact HB.out)⟩⟩
    case round =>
     clear H'
     try clear c1
     try clear p2
     try clear c4
     try clear c4b0
     try clear c4b1
     try clear c6
     try clear c6b0
     try clear c6b1
     try clear p6
     try clear c7
     try clear c7b0
     try clear c7b1
     obtain ⟨x8_1, x26_1, rfl, HA, HK1, HO_8, BK118, HB⟩ := hrel
     have hl8_1 := (Kd.S_reads' HO_8.out).1
     rw [hl8_1] at HO_8
     (try simp only [hl8_1])
     (try simp only [hl8_1] at BK118)
     cases gk with
     | zero => exact absurd HA.out (by simp [branch_Count.l0])
     | succ k1 =>
      have H := HA.out
      clear HA
      simp only [branch_Count.l0] at H
      by_cases c12 : x26_1 < (y119.length : Int)
      ·rw [if_pos c12] at H
       have c12b0 : decide (x26_1 < (y119.length : Int)) = true := decide_eq_true c12
       (try (have c12b0l := c12b0; simp only [hl8_1] at c12b0l))
       clear c12
       replace H : (if 0 ≤ (ji5) then (if (ji5 : Int).toNat ≤ 35184372088832 then (if 0 ≤ x26_1 then (if x26_1 < (x8_1.length : Int) then (branch_Count.l0 k1 a0 (x8_1.set (x26_1 : Int).toNat (List.replicate (ji5 : Int).toNat 0)) (y119.length : Int) (wrap64 (x26_1 + 1)) a0 l1) else (none)) else (none)) else (none)) else (none)) = some (r1, r2) := by first | (rw [hji5] at H; exact H) | (simp only [hji5] at H ⊢; exact H)
       by_cases c13 : 0 ≤ (ji5)
       ·rw [if_pos c13] at H
        have c13b0 := eq_true c13
        have c13b1 : decide (0 ≤ (ji5)) = true := decide_eq_true c13
        clear c13
        by_cases c14 : (ji5 : Int).toNat ≤ 35184372088832
        ·rw [if_pos c14] at H
         have c14b0 := eq_true c14
         have c14b1 : decide ((ji5 : Int).toNat ≤ 35184372088832) = true := decide_eq_true c14
         clear c14
         obtain ⟨y122, hy122⟩ : ∃ y_ : List Int, y_ = (List.replicate (ji5 : Int).toNat 0) := ⟨_, rfl⟩
         replace H : (if 0 ≤ x26_1 then (if x26_1 < (x8_1.length : Int) then (branch_Count.l0 k1 a0 (x8_1.set (x26_1 : Int).toNat y122) (y119.length : Int) (wrap64 (x26_1 + 1)) a0 l1) else (none)) else (none)) = some (r1, r2) := by first | (rw [hy122]; with_reducible exact H) | (have H2_ := (Option.bind_some _ _).symm.trans H; rw [hy122]; with_reducible exact H2_) | (have H2_ := (Option.bind_some _ _).symm.trans H; with_reducible exact H2_) | with_reducible exact H | (rw [hy122]; exact H) | exact H
         have Ny122 := Aside0.mk hy122
         clear hy122
         by_cases c15 : 0 ≤ x26_1
         ·rw [if_pos c15] at H
          have c15b0 : decide (0 ≤ x26_1) = true := decide_eq_true c15
          clear c15
          by_cases c16 : x26_1 < (x8_1.length : Int)
          ·rw [if_pos c16] at H
           have c16b0 : decide (x26_1 < (x8_1.length : Int)) = true := decide_eq_true c16
           (try (have c16b0l := c16b0; simp only [hl8_1] at c16b0l))
           clear c16
           obtain ⟨y125, hy125⟩ : ∃ y_ : List (List Int), y_ = (x8_1.set (x26_1 : Int).toNat y122) := ⟨_, rfl⟩
           replace H : (branch_Count.l0 k1 a0 y125 (y119.length : Int) (wrap64 (x26_1 + 1)) a0 l1) = some (r1, r2) := by first | (rw [hy125]; with_reducible exact H) | (have H2_ := (Option.bind_some _ _).symm.trans H; rw [hy125]; with_reducible exact H2_) | (have H2_ := (Option.bind_some _ _).symm.trans H; with_reducible exact H2_) | with_reducible exact H | (rw [hy125]; exact H) | exact H
           have Ny125 := Aside0.mk hy125
           clear hy125
           have H' := Aside0.mk H
           clear H
           go_wp2_with (first | ((with_reducible refine gate_dst (N := 33) rfl ?_); refine Kd.R_make (Kd.int .i64) _ 3 rfl (N := 33) rfl 28 _ _ rfl ji5 rfl rfl Try.underlying28 (.int .i64 0) 8 info3 rfl (by decide) (by omega) 0 (ok := fun _ => True) (okp := fun _ => True) rfl (fun _ hk => hk) trivial (of_decide_eq_true (by first | (with_reducible assumption) | assumption)) (Nat.le_trans (Nat.mul_le_mul_right _ (of_decide_eq_true (by first | (with_reducible assumption) | assumption) : ji5.toNat ≤ 35184372088832)) (by omega)) (Below.refl _ _) (Nat.le_refl _) ?_; intro v123 w18 ho19 hb hg_ hnew_; clear hg_ hnew_; (first | rw [← Ny122.out] at ho19 | (simp only [Int.reduceToNat] at ho19; rw [← Ny122.out] at ho19)); have n0_ := Aside0.mk (Kd.S_elder' (by (with_reducible repeat (first | apply Kd.S_alloc | apply Kd.S_drewN | apply Kd.S_drew)); exact HO_8.out) (Kd.R_base ho19) hb); have n1_ := Aside0.mk (Kd.R_lower ho19 (below_size (by repeat (first | (with_reducible first | exact HB.out | apply below_alloc | apply pw_below_drewN | apply below_drew1 | refine below_set ?_ GE118.out) | exact HB.out)))); have n2_ := Aside0.mk (blk_below (g := gb118) (o := .cells #[.int .i64 a0, .slice A1 l1.length c1, .map mr118] 70 (0, 0)) (by (with_reducible repeat (first | refine blk_drewN ?_ _ | refine blk_drew ?_ | refine blk_alloc ?_ _)); exact BK118.out) hb); have n3_ := Aside0.mk (below_step (by repeat (first | (with_reducible first | exact HB.out | apply below_alloc | apply pw_below_drewN | apply below_drew1 | refine below_set ?_ GE118.out) | exact HB.out)) hb); clear HO_8; clear BK118; clear HB; have HO_8 := n0_; have HO124 := n1_; have BK118 := n2_; have HB := n3_; clear n0_ n1_ n2_ n3_; clear hb ho19; have p17 : 0 ≤ (x26_1 : Int) := of_decide_eq_true (by first | (with_reducible assumption) | assumption); have q17 : (x26_1 : Int) < ((x8_1.length : Int) : Int) := of_decide_eq_true (by first | (with_reducible assumption) | assumption); obtain ⟨go17, co17, eo17, gb17, gl17, cl17, HG17⟩ := Kd.S_form HO_8.out (by omega); (first | cases eo17 | (injection eo17 with ea_ en_ ec_; (first | subst ea_ | (injection ea_ with ea_; subst ea_)); subst ec_; clear en_)); have GB17 := Aside0.mk gb17; have GG17 := Aside0.mk HG17; clear gb17 gl17 HG17; obtain ⟨_, ce17, hcl17, hM17, hcc17, hfr17, _, _⟩ := Kd.S_elem HO_8.out [] (x26_1 : Int) p17 q17; obtain ⟨ve17_0, rfl, ge17_0⟩ := hM17; have hx17_0 := hcc17 0 _ rfl; have hf17_0 := hfr17 0; (try simp only [show ((Kd.slice 3 (Kd.int .i64))).sz = 1 from rfl, Nat.mul_one, Nat.add_zero] at hx17_0); (try simp only [show ((Kd.slice 3 (Kd.int .i64))).sz = 1 from rfl, Nat.mul_one, Nat.add_zero] at hf17_0); (try clear hcl17); (try clear hcc17); (try clear hfr17); (try clear hM17); replace p17 := eq_true p17; replace q17 := eq_true q17; have n_ := Aside0.mk (Kd.S_mono (ok' := (fun k_ => some k_ ≠ (v123 : Value).ownBlock)) HO_8.out (fun k_ hk => hk.2)); clear HO_8; have HO_8 := n_; clear n_; have HX20 := Aside0.mk (show Kd.S (Kd.slice 3 (Kd.int .i64)) 28 w18 w.heap.size (fun k_ => ((fun _ => True)) k_ ∧ ¬ ((fun k_ => some k_ = (v123 : Value).ownBlock)) k_) (.slice (some ⟨go17, 0, none⟩) x8_1.length co11) x8_1 from (by (with_reducible repeat (first | apply Kd.S_alloc | apply Kd.S_drewN | apply Kd.S_drew)); exact Kd.S_mono HO_8.out (fun k_ hk => ⟨trivial, fun e_ => hk e_⟩))); obtain ⟨oki20, ce20, hcl20, hM20, hcc20, hfr20, hoki20, hH20⟩ := Kd.S_elem HX20.out [] (x26_1 : Int) (of_decide_eq_true (by first | (with_reducible assumption) | assumption)) (by have h_ : (x26_1 : Int) < ((x8_1.length : Int) : Int) := of_decide_eq_true (by first | (with_reducible assumption) | assumption); first | exact h_ | (have e_ := (Kd.S_reads' HO_8.out).1; omega) | simpa using h_); obtain ⟨ve20_0, rfl, ge20_0⟩ := hM20; have HP20 := Kd.S_seg hH20 (of_decide_eq_true (by first | (with_reducible assumption) | assumption)) (by have h_ : (x26_1 : Int) < ((x8_1.length : Int) : Int) := of_decide_eq_true (by first | (with_reducible assumption) | assumption); first | exact h_ | (have e_ := (Kd.S_reads' HO_8.out).1; omega) | simpa using h_) (seg := [v123]) (j := 0) (show 1 ≤ 1 from by decide) (x' := y122) (Kd.M_row (Kd.R_mono (Kd.R_tight rfl (Kd.R_mono (ok' := fun k_ => ((fun _ => True)) k_ ∧ k_ ≠ go17) (Kd.R_apart' (HO124.out) (Kd.S_typed HO_8.out) (by decide)) (fun k_ hk => ⟨trivial, fun e_ => (hk.2) (by rw [e_]; rfl)⟩))) (fun _ h_ => Or.inr (h_)))) (fun _ hk => hk) (fun k_ hk_ => ((Kd.R_mono (ok' := fun k_ => ((fun _ => True)) k_ ∧ k_ ≠ go17) (Kd.R_apart' (HO124.out) (Kd.S_typed HO_8.out) (by decide)) (fun k_ hk => ⟨trivial, fun e_ => (hk.2) (by rw [e_]; rfl)⟩))).1 k_ hk_.symm); have hx20_0 := hcc20 0 _ rfl; (try simp only [show ((Kd.slice 3 (Kd.int .i64))).sz = 1 from rfl, Nat.mul_one, Nat.add_zero] at hx20_0); have hf20_0 := hfr20 0; (try simp only [show ((Kd.slice 3 (Kd.int .i64))).sz = 1 from rfl, Nat.mul_one, Nat.add_zero] at hf20_0); (try clear hcl20); (try clear hcc20); (try clear hfr20); (try clear hM20); (try clear hoki20); (try clear hH20); (try simp only [show ((Kd.slice 3 (Kd.int .i64))).sz = 1 from rfl, Nat.mul_one, Nat.add_zero] at HP20)) | ((with_reducible refine gate_store (t := 28) (p := 34) rfl ?_); refine store_event (t := 28) (p := 34) (v := ?vo_w21) (w1 := (w18.setCell ⟨go17, (x26_1 : Int).toNat, none⟩ (v123))) ?hg ?ho ?hn ?hr ?_; (case ho => rfl); (case hg => rfl); (case hn => rfl); (case hr => first | (go_simp; done) | (go_simp; rfl) | (obtain ⟨A_, c_, e_⟩ := Kd.R_slice HO124.out; rw [e_]; first | (go_simp; done) | (go_simp; rfl))); intro w21 hw; have hg : w18.grownBy w21 (some go17) := (by rw [hw]; exact HP20.2); have hp_ : Kd.S (Kd.slice 3 (Kd.int .i64)) 28 w21 w.heap.size (fun _ => True) (.slice (some ⟨go17, 0, none⟩) x8_1.length co11) y125 := (by rw [hw, Ny125.out]; exact HP20.1); clear HP20; have n0_ := Aside0.mk (hp_); have n1_ := Aside0.mk (blk_grown (g := gb118) (o := .cells #[.int .i64 a0, .slice A1 l1.length c1, .map mr118] 70 (0, 0)) (by (with_reducible repeat (first | refine blk_drewN ?_ _ | refine blk_drew ?_ | refine blk_alloc ?_ _)); exact BK118.out) hg (Kd.S_ne HO_8.out BK118.out (by decide))); have n2_ := Aside0.mk ((by rw [hw]; exact below_set (HB.out) GB17.out : Below w.heap.size w w21)); clear HO_8; clear BK118; clear HB; clear HO124; have HO_8 := n0_; have BK118 := n1_; have HB := n2_; clear n0_ n1_ n2_; clear hg hw hp_))
           (try simp only [← hl8_1])
           go_roundg k1
           case measure => have := HK1.out; omega
           case rel => exact ⟨(y125), (wrap64 (x26_1 + 1)), (by first | rfl | (simp; done) | (simp [*]; done)), H', ⟨by have := HK1.out; omega⟩, ⟨by (try simp only [hl8_1]); (with_reducible repeat (first | apply Kd.S_alloc | apply Kd.S_drewN | apply Kd.S_drew)); exact HO_8.out⟩, ⟨by (try simp only [hl8_1]); (with_reducible repeat (first | refine blk_drewN ?_ _ | refine blk_drew ?_ | refine blk_alloc ?_ _)); exact BK118.out⟩, ⟨by repeat (first | (with_reducible first | exact HB.out | apply below_alloc | apply pw_below_drewN | apply below_drew1 | refine below_set ?_ GE118.out) | exact HB.out)⟩⟩
          ·rw [if_neg c16] at H
           exact absurd H (by simp)
         ·rw [if_neg c15] at H
          exact absurd H (by simp)
        ·rw [if_neg c14] at H
         exact absurd H (by simp)
       ·rw [if_neg c13] at H
        exact absurd H (by simp)
      ·rw [if_neg c12] at H
       have c12b0 : decide (x26_1 < (y119.length : Int)) = false := decide_eq_false c12
       (try (have c12b0l := c12b0; simp only [hl8_1] at c12b0l))
       clear c12
       have H' := Aside0.mk H
       clear H
       have hcz22_0 : wr.cell? ⟨gb118, 0, none⟩ = some (.int .i64 a0) := (blk_cell BK118.out 0).trans rfl
       have hcz22_1 : wr.cell? ⟨gb118, 1, none⟩ = some (.slice A1 l1.length c1) := (blk_cell BK118.out 1).trans rfl
       have hcz22_2 : wr.cell? ⟨gb118, 2, none⟩ = some (.map mr118) := (blk_cell BK118.out 2).trans rfl
       have hfz22_0 := blk_frozen BK118.out 0
       have hfz22_1 := blk_frozen BK118.out 1
       have hfz22_2 := blk_frozen BK118.out 2
       go_wp2
       go_loopg [41] k1 (fun kq v41 w' => ∃ (x8_2 : List (List Int)) (x41_2 : Int), v41 = .int .i64 x41_2 ∧ Aside0 (branch_Count.l1 kq x8_2 l1 (l1.length : Int) x41_2 = some (r1, r2)) ∧ Aside0 (kq ≤ k1) ∧ Aside0 (Kd.S (Kd.slice 3 (Kd.int .i64)) 28 w' w.heap.size (fun _ => True) (.slice Ao11 x8_1.length co11) x8_2) ∧ Aside0 (w'.heap[gb118]? = some (.cells #[.int .i64 a0, (.slice A1 l1.length c1), .map mr118] 70 (0, 0))) ∧ Aside0 (Below w.heap.size w w'))
       case atStart => exact ⟨(x8_1), (0), (by first | rfl | (simp; done) | (simp [*]; done)), H', ⟨Nat.le_refl _⟩, ⟨by (try simp only [hl8_1]); (with_reducible repeat (first | apply Kd.S_alloc | apply Kd.S_drewN | apply Kd.S_drew)); exact HO_8.out⟩, ⟨by (try simp only [hl8_1]); (with_reducible repeat (first | refine blk_drewN ?_ _ | refine blk_drew ?_ | refine blk_alloc ?_ _)); exact BK118.out⟩, ⟨by repeat (first | (with_reducible first | exact HB.out | apply below_alloc | apply pw_below_drewN | apply below_drew1 | refine below_set ?_ GE118.out) | exact HB.out)⟩⟩
       case round =>
        clear H'
        try clear c1
        try clear p1
        try clear q1
        try clear hx1
        try clear c2
        try clear p2
        try clear hx2
        try clear hf2
        try clear c4
        try clear c4b0
        try clear c4b1
        try clear c6
        try clear c6b0
        try clear c6b1
        try clear p6
        try clear c7
        try clear c7b0
        try clear c7b1
        try clear c12
        try clear c12b0
        try clear c13
        try clear c13b0
        try clear c13b1
        try clear c14
        try clear c14b0
        try clear c14b1
        try clear c15
        try clear c15b0
        try clear c16
        try clear c16b0
        try clear c17
        try clear p17
        try clear q17
        try clear hx17
        try clear hf17
        try clear c18
        try clear c20
        try clear hx20
        try clear hf20
        try clear hcz22_0
        try clear hcz22_1
        try clear hcz22_2
        try clear hfz22_0
        try clear hfz22_1
        try clear hfz22_2
        try clear hx17_0
        try clear hx20_0
        try clear p17
        try clear p2
        try clear p6
        try clear q17
        obtain ⟨x8_2, x41_2, rfl, HA, HK2, HO_8, BK118, HB⟩ := hrel
        have hl8_2 := (Kd.S_reads' HO_8.out).1
        rw [hl8_2] at HO_8
        (try simp only [hl8_2])
        (try simp only [hl8_2] at BK118)
        cases gk with
        | zero => exact absurd HA.out (by simp [branch_Count.l1])
        | succ k2 =>
         have H := HA.out
         clear HA
         simp only [branch_Count.l1] at H
         by_cases c23 : x41_2 < (l1.length : Int)
         ·rw [if_pos c23] at H
          have c23b0 : decide (x41_2 < (l1.length : Int)) = true := decide_eq_true c23
          (try (have c23b0l := c23b0; simp only [hl8_1] at c23b0l))
          (try (have c23b0l := c23b0; simp only [hl8_2] at c23b0l))
          clear c23
          by_cases c24 : 0 ≤ x41_2
          ·rw [if_pos c24] at H
           have c24b0 : decide (0 ≤ x41_2) = true := decide_eq_true c24
           clear c24
           by_cases c25 : x41_2 < (l1.length : Int)
           ·rw [if_pos c25] at H
            have c25b0 : decide (x41_2 < (l1.length : Int)) = true := decide_eq_true c25
            (try (have c25b0l := c25b0; simp only [hl8_1] at c25b0l))
            (try (have c25b0l := c25b0; simp only [hl8_2] at c25b0l))
            clear c25
            by_cases c26 : ((rd_T30 l1 x41_2).f1) > 0
            ·rw [if_pos c26] at H
             have c26b0 : decide (0 < ((rd_T30 l1 x41_2).f1)) = true := decide_eq_true c26
             clear c26
             obtain ⟨ji27, hji27⟩ : ∃ j_ : Int, (wrap64 (((rd_T30 l1 x41_2).f1) - 1)) = j_ := ⟨_, rfl⟩
             replace H : (if 0 ≤ (ji27) then (if (ji27) < (x8_2.length : Int) then (if (ji27) < ((rd_L12 x8_2 (ji27)).length : Int) then ((some (x8_2.set ((ji27) : Int).toNat ((rd_L12 x8_2 (ji27)).set ((ji27) : Int).toNat (wrap64 ((rd (rd_L12 x8_2 (ji27)) (ji27)) + 1))) : List (List Int))).bind fun y133 => (if ((rd_T30 l1 x41_2).f0) > 0 then (if 0 ≤ (wrap64 (((rd_T30 l1 x41_2).f0) - 1)) then (if (wrap64 (((rd_T30 l1 x41_2).f0) - 1)) < (x8_2.length : Int) then (if (ji27) < ((rd_L12 y133 (wrap64 (((rd_T30 l1 x41_2).f0) - 1))).length : Int) then (branch_Count.l1 k2 (y133.set ((wrap64 (((rd_T30 l1 x41_2).f0) - 1)) : Int).toNat ((rd_L12 y133 (wrap64 (((rd_T30 l1 x41_2).f0) - 1))).set ((ji27) : Int).toNat (wrap64 ((rd (rd_L12 y133 (wrap64 (((rd_T30 l1 x41_2).f0) - 1))) (ji27)) - 1)))) l1 (l1.length : Int) (wrap64 (x41_2 + 1))) else (none)) else (none)) else (none)) else (branch_Count.l1 k2 y133 l1 (l1.length : Int) (wrap64 (x41_2 + 1))))) else (none)) else (none)) else (none)) = some (r1, r2) := by first | (rw [hji27] at H; exact H) | (simp only [hji27] at H ⊢; exact H)
             have hji27w : (IntKind.i64.wrap (((rd_T30 l1 x41_2).f1) - 1)) = ji27 := (i64_w _).trans hji27
             by_cases c28 : 0 ≤ (ji27)
             ·rw [if_pos c28] at H
              have c28b0 : decide (0 ≤ (ji27)) = true := decide_eq_true c28
              clear c28
              by_cases c29 : (ji27) < (x8_2.length : Int)
              ·rw [if_pos c29] at H
               have c29b0 : decide ((ji27) < (x8_2.length : Int)) = true := decide_eq_true c29
               (try (have c29b0l := c29b0; simp only [hl8_1] at c29b0l))
               (try (have c29b0l := c29b0; simp only [hl8_2] at c29b0l))
               clear c29
               by_cases c30 : (ji27) < ((rd_L12 x8_2 (ji27)).length : Int)
               ·rw [if_pos c30] at H
                have c30b0 : decide ((ji27) < ((rd_L12 x8_2 (ji27)).length : Int)) = true := decide_eq_true c30
                (try (have c30b0l := c30b0; simp only [hl8_1] at c30b0l))
                (try (have c30b0l := c30b0; simp only [hl8_2] at c30b0l))
                clear c30
                obtain ⟨y131, hy131⟩ : ∃ y_ : List Int, y_ = ((rd_L12 x8_2 (ji27)).set ((ji27) : Int).toNat (wrap64 ((rd (rd_L12 x8_2 (ji27)) (ji27)) + 1))) := ⟨_, rfl⟩
                replace H : ((some (x8_2.set ((ji27) : Int).toNat y131 : List (List Int))).bind fun y133 => (if ((rd_T30 l1 x41_2).f0) > 0 then (if 0 ≤ (wrap64 (((rd_T30 l1 x41_2).f0) - 1)) then (if (wrap64 (((rd_T30 l1 x41_2).f0) - 1)) < (x8_2.length : Int) then (if (ji27) < ((rd_L12 y133 (wrap64 (((rd_T30 l1 x41_2).f0) - 1))).length : Int) then (branch_Count.l1 k2 (y133.set ((wrap64 (((rd_T30 l1 x41_2).f0) - 1)) : Int).toNat ((rd_L12 y133 (wrap64 (((rd_T30 l1 x41_2).f0) - 1))).set ((ji27) : Int).toNat (wrap64 ((rd (rd_L12 y133 (wrap64 (((rd_T30 l1 x41_2).f0) - 1))) (ji27)) - 1)))) l1 (l1.length : Int) (wrap64 (x41_2 + 1))) else (none)) else (none)) else (none)) else (branch_Count.l1 k2 y133 l1 (l1.length : Int) (wrap64 (x41_2 + 1))))) = some (r1, r2) := by first | (rw [hy131]; with_reducible exact H) | (have H2_ := (Option.bind_some _ _).symm.trans H; rw [hy131]; with_reducible exact H2_) | (have H2_ := (Option.bind_some _ _).symm.trans H; with_reducible exact H2_) | with_reducible exact H | (rw [hy131]; exact H) | exact H
                have Ny131 := Aside0.mk hy131
                clear hy131
                obtain ⟨y133, hy133⟩ : ∃ y_ : List (List Int), y_ = (x8_2.set ((ji27) : Int).toNat y131) := ⟨_, rfl⟩
                replace H : (if ((rd_T30 l1 x41_2).f0) > 0 then (if 0 ≤ (wrap64 (((rd_T30 l1 x41_2).f0) - 1)) then (if (wrap64 (((rd_T30 l1 x41_2).f0) - 1)) < (x8_2.length : Int) then (if (ji27) < ((rd_L12 y133 (wrap64 (((rd_T30 l1 x41_2).f0) - 1))).length : Int) then (branch_Count.l1 k2 (y133.set ((wrap64 (((rd_T30 l1 x41_2).f0) - 1)) : Int).toNat ((rd_L12 y133 (wrap64 (((rd_T30 l1 x41_2).f0) - 1))).set ((ji27) : Int).toNat (wrap64 ((rd (rd_L12 y133 (wrap64 (((rd_T30 l1 x41_2).f0) - 1))) (ji27)) - 1)))) l1 (l1.length : Int) (wrap64 (x41_2 + 1))) else (none)) else (none)) else (none)) else (branch_Count.l1 k2 y133 l1 (l1.length : Int) (wrap64 (x41_2 + 1)))) = some (r1, r2) := by first | (rw [hy133]; with_reducible exact H) | (have H2_ := (Option.bind_some _ _).symm.trans H; rw [hy133]; with_reducible exact H2_) | (have H2_ := (Option.bind_some _ _).symm.trans H; with_reducible exact H2_) | with_reducible exact H | (rw [hy133]; exact H) | exact H
                have Ny133 := Aside0.mk hy133
                clear hy133
                by_cases c32 : ((rd_T30 l1 x41_2).f0) > 0
                ·rw [if_pos c32] at H
                 have c32b0 : decide (0 < ((rd_T30 l1 x41_2).f0)) = true := decide_eq_true c32
                 clear c32
                 obtain ⟨ji33, hji33⟩ : ∃ j_ : Int, (wrap64 (((rd_T30 l1 x41_2).f0) - 1)) = j_ := ⟨_, rfl⟩
                 replace H : (if 0 ≤ (ji33) then (if (ji33) < (x8_2.length : Int) then (if (ji27) < ((rd_L12 y133 (ji33)).length : Int) then (branch_Count.l1 k2 (y133.set ((ji33) : Int).toNat ((rd_L12 y133 (ji33)).set ((ji27) : Int).toNat (wrap64 ((rd (rd_L12 y133 (ji33)) (ji27)) - 1)))) l1 (l1.length : Int) (wrap64 (x41_2 + 1))) else (none)) else (none)) else (none)) = some (r1, r2) := by first | (rw [hji33] at H; exact H) | (simp only [hji33] at H ⊢; exact H)
                 have hji33w : (IntKind.i64.wrap (((rd_T30 l1 x41_2).f0) - 1)) = ji33 := (i64_w _).trans hji33
                 by_cases c34 : 0 ≤ (ji33)
                 ·rw [if_pos c34] at H
                  have c34b0 : decide (0 ≤ (ji33)) = true := decide_eq_true c34
                  clear c34
                  by_cases c35 : (ji33) < (x8_2.length : Int)
                  ·rw [if_pos c35] at H
                   have c35b0 : decide ((ji33) < (x8_2.length : Int)) = true := decide_eq_true c35
                   (try (have c35b0l := c35b0; simp only [hl8_1] at c35b0l))
                   (try (have c35b0l := c35b0; simp only [hl8_2] at c35b0l))
                   clear c35
                   by_cases c36 : (ji27) < ((rd_L12 y133 (ji33)).length : Int)
                   ·rw [if_pos c36] at H
                    have c36b0 : decide ((ji27) < ((rd_L12 y133 (ji33)).length : Int)) = true := decide_eq_true c36
                    (try (have c36b0l := c36b0; simp only [hl8_1] at c36b0l))
                    (try (have c36b0l := c36b0; simp only [hl8_2] at c36b0l))
                    clear c36
                    obtain ⟨y136, hy136⟩ : ∃ y_ : List Int, y_ = ((rd_L12 y133 (ji33)).set ((ji27) : Int).toNat (wrap64 ((rd (rd_L12 y133 (ji33)) (ji27)) - 1))) := ⟨_, rfl⟩
                    replace H : (branch_Count.l1 k2 (y133.set ((ji33) : Int).toNat y136) l1 (l1.length : Int) (wrap64 (x41_2 + 1))) = some (r1, r2) := by first | (rw [hy136]; with_reducible exact H) | (have H2_ := (Option.bind_some _ _).symm.trans H; rw [hy136]; with_reducible exact H2_) | (have H2_ := (Option.bind_some _ _).symm.trans H; with_reducible exact H2_) | with_reducible exact H | (rw [hy136]; exact H) | exact H
                    have Ny136 := Aside0.mk hy136
                    clear hy136
                    obtain ⟨y138, hy138⟩ : ∃ y_ : List (List Int), y_ = (y133.set ((ji33) : Int).toNat y136) := ⟨_, rfl⟩
                    replace H : (branch_Count.l1 k2 y138 l1 (l1.length : Int) (wrap64 (x41_2 + 1))) = some (r1, r2) := by first | (rw [hy138]; with_reducible exact H) | (have H2_ := (Option.bind_some _ _).symm.trans H; rw [hy138]; with_reducible exact H2_) | (have H2_ := (Option.bind_some _ _).symm.trans H; with_reducible exact H2_) | with_reducible exact H | (rw [hy138]; exact H) | exact H
                    have Ny138 := Aside0.mk hy138
                    clear hy138
                    have H' := Aside0.mk H
                    clear H
                    have p127 : 0 ≤ (x41_2 : Int) := of_decide_eq_true (by first | (with_reducible assumption) | assumption)
                    have q127 : x41_2 < (l1.length : Int) := of_decide_eq_true (by first | (with_reducible assumption) | assumption)
                    obtain ⟨ad127, e127, hx127_0, hx127_1, hx127_2⟩ := at_T30 HR1.out x41_2 p127 q127
                    cases e127
                    replace hx127_0 := (HB.out.cell (World.block_lt_of_cell? w _ hx127_0)).trans hx127_0
                    replace hx127_1 := (HB.out.cell (World.block_lt_of_cell? w _ hx127_1)).trans hx127_1
                    replace hx127_2 := (HB.out.cell (World.block_lt_of_cell? w _ hx127_2)).trans hx127_2
                    replace p127 := eq_true p127
                    replace q127 := eq_true q127
                    try go_wp2_with (first | ((with_reducible refine gate_dst (N := 11) rfl ?_); refine box_event ?hg (N := 11) ?hd (cs := #[.int .i64 0, .int .i64 0, .int .i64 0]) (t := 30) ?hr ?_; (case hd => rfl); (case hg => rfl); (case hr => first | (go_simp; done) | (go_simp; rfl)); intro gb128 hg w38 hbox hb; have n0_ := Aside0.mk (Kd.S_below (by (with_reducible repeat (first | apply Kd.S_alloc | apply Kd.S_drewN | apply Kd.S_drew)); exact HO_8.out) hb); have n1_ := Aside0.mk (blk_below (g := gb118) (o := .cells #[.int .i64 a0, .slice (some ad127) l1.length c1, .map mr118] 70 (0, 0)) (by (with_reducible repeat (first | refine blk_drewN ?_ _ | refine blk_drew ?_ | refine blk_alloc ?_ _)); exact BK118.out) hb); have n2_ := Aside0.mk (below_step (by repeat (first | (with_reducible first | exact HB.out | apply below_alloc | apply pw_below_drewN | apply below_drew1 | refine below_set ?_ GE118.out) | exact HB.out)) hb); have n3_ := Aside0.mk (hbox); have n4_ := Aside0.mk ((by rw [hg]; exact (below_size (by repeat (first | (with_reducible first | exact HB.out | apply below_alloc | apply pw_below_drewN | apply below_drew1 | refine below_set ?_ GE118.out) | exact HB.out))) : w.heap.size ≤ gb128)); have n5_ := Aside0.mk ((by rw [hg]; exact (below_size (by repeat (first | (with_reducible first | exact HB.out | apply below_alloc | apply pw_below_drewN | apply below_drew1 | refine below_set ?_ GE118.out) | exact HB.out))) : w.heap.size ≤ gb128)); have n6_ := Aside0.mk ((by rw [hg]; exact Nat.ne_of_lt (blk_lt (g := gb118) (o := .cells #[.int .i64 a0, .slice (some ad127) l1.length c1, .map mr118] 70 (0, 0)) (by (with_reducible repeat (first | refine blk_drewN ?_ _ | refine blk_drew ?_ | refine blk_alloc ?_ _)); exact BK118.out)) : gb118 ≠ gb128)); have n7_ := Aside0.mk ((by rw [hg]; exact Nat.ne_of_gt (blk_lt (g := gb118) (o := .cells #[.int .i64 a0, .slice (some ad127) l1.length c1, .map mr118] 70 (0, 0)) (by (with_reducible repeat (first | refine blk_drewN ?_ _ | refine blk_drew ?_ | refine blk_alloc ?_ _)); exact BK118.out)) : gb128 ≠ gb118)); clear HO_8; clear BK118; clear HB; have HO_8 := n0_; have BK118 := n1_; have HB := n2_; have BK128 := n3_; have GW128 := n4_; have GE128 := n5_; have NB118_128 := n6_; have NB128_118 := n7_; clear n0_ n1_ n2_ n3_ n4_ n5_ n6_ n7_; clear hb hbox hg; have hnb39 := NB128_118.out; have hnc39 := NB118_128.out; have hcz40_0 : w38.cell? ⟨gb128, 0, none⟩ = some (.int .i64 0) := (blk_cell BK128.out 0).trans rfl; have hcz40_1 : w38.cell? ⟨gb128, 1, none⟩ = some (.int .i64 0) := (blk_cell BK128.out 1).trans rfl; have hcz40_2 : w38.cell? ⟨gb128, 2, none⟩ = some (.int .i64 0) := (blk_cell BK128.out 2).trans rfl; have hfz40_0 := blk_frozen BK128.out 0; have hfz40_1 := blk_frozen BK128.out 1; have hfz40_2 := blk_frozen BK128.out 2))
                    have n0_ : Aside0 (Kd.S (Kd.slice 3 (Kd.int .i64)) 28 (((w38.setCell ⟨gb128, 0, none⟩ (.int .i64 ((rd_T30 l1 x41_2).f0))).setCell ⟨gb128, 1, none⟩ (.int .i64 ((rd_T30 l1 x41_2).f1))).setCell ⟨gb128, 2, none⟩ (.int .i64 ((rd_T30 l1 x41_2).f2))) w.heap.size (fun _ => True) (.slice Ao11 x8_2.length co11) x8_2) := ⟨by (with_reducible repeat (first | apply Kd.S_alloc | apply Kd.S_drewN | apply Kd.S_drew)); exact Kd.S_mono (Kd.S_far (p := ⟨gb128, 2, none⟩) (Kd.S_far (p := ⟨gb128, 1, none⟩) (Kd.S_far (p := ⟨gb128, 0, none⟩) (Kd.S_types HO_8.out BK128.out (by decide)) (fun _ hk => hk.2) (.int .i64 ((rd_T30 l1 x41_2).f0))) (fun _ hk => hk.2) (.int .i64 ((rd_T30 l1 x41_2).f1))) (fun _ hk => hk.2) (.int .i64 ((rd_T30 l1 x41_2).f2))) (fun _ hk => trivial)⟩
                    have n1_ : Aside0 ((((w38.setCell ⟨gb128, 0, none⟩ (.int .i64 ((rd_T30 l1 x41_2).f0))).setCell ⟨gb128, 1, none⟩ (.int .i64 ((rd_T30 l1 x41_2).f1))).setCell ⟨gb128, 2, none⟩ (.int .i64 ((rd_T30 l1 x41_2).f2))).heap[gb118]? = some (.cells #[.int .i64 a0, .slice (some ad127) l1.length c1, .map mr118] 70 (0, 0))) := ⟨by (with_reducible repeat (first | refine blk_drewN ?_ _ | refine blk_drew ?_ | refine blk_alloc ?_ _)); refine blk_far ?_ NB118_128.out _; (with_reducible repeat (first | refine blk_drewN ?_ _ | refine blk_drew ?_ | refine blk_alloc ?_ _)); refine blk_far ?_ NB118_128.out _; (with_reducible repeat (first | refine blk_drewN ?_ _ | refine blk_drew ?_ | refine blk_alloc ?_ _)); refine blk_far ?_ NB118_128.out _; (with_reducible repeat (first | refine blk_drewN ?_ _ | refine blk_drew ?_ | refine blk_alloc ?_ _)); exact BK118.out⟩
                    have n2_ : Aside0 ((((w38.setCell ⟨gb128, 0, none⟩ (.int .i64 ((rd_T30 l1 x41_2).f0))).setCell ⟨gb128, 1, none⟩ (.int .i64 ((rd_T30 l1 x41_2).f1))).setCell ⟨gb128, 2, none⟩ (.int .i64 ((rd_T30 l1 x41_2).f2))).heap[gb128]? = some (.cells #[.int .i64 ((rd_T30 l1 x41_2).f0), .int .i64 ((rd_T30 l1 x41_2).f1), .int .i64 ((rd_T30 l1 x41_2).f2)] 30 (0, 0))) := ⟨by (with_reducible repeat (first | refine blk_drewN ?_ _ | refine blk_drew ?_ | refine blk_alloc ?_ _)); refine blk_put (cs := #[.int .i64 ((rd_T30 l1 x41_2).f0), .int .i64 ((rd_T30 l1 x41_2).f1), .int .i64 0]) ?_ 2 _ rfl; (with_reducible repeat (first | refine blk_drewN ?_ _ | refine blk_drew ?_ | refine blk_alloc ?_ _)); refine blk_put (cs := #[.int .i64 ((rd_T30 l1 x41_2).f0), .int .i64 0, .int .i64 0]) ?_ 1 _ rfl; (with_reducible repeat (first | refine blk_drewN ?_ _ | refine blk_drew ?_ | refine blk_alloc ?_ _)); refine blk_put (cs := #[.int .i64 0, .int .i64 0, .int .i64 0]) ?_ 0 _ rfl; (with_reducible repeat (first | refine blk_drewN ?_ _ | refine blk_drew ?_ | refine blk_alloc ?_ _)); exact BK128.out⟩
                    have n3_ : Aside0 (Below w.heap.size w (((w38.setCell ⟨gb128, 0, none⟩ (.int .i64 ((rd_T30 l1 x41_2).f0))).setCell ⟨gb128, 1, none⟩ (.int .i64 ((rd_T30 l1 x41_2).f1))).setCell ⟨gb128, 2, none⟩ (.int .i64 ((rd_T30 l1 x41_2).f2)))) := ⟨by repeat (first | (with_reducible first | exact HB.out | apply below_alloc | apply pw_below_drewN | apply below_drew1 | refine below_set ?_ GE118.out | refine below_set ?_ GE128.out) | exact HB.out)⟩
                    (try clear HO_8)
                    (try clear BK118)
                    (try clear BK128)
                    (try clear HB)
                    generalize (((w38.setCell ⟨gb128, 0, none⟩ (.int .i64 ((rd_T30 l1 x41_2).f0))).setCell ⟨gb128, 1, none⟩ (.int .i64 ((rd_T30 l1 x41_2).f1))).setCell ⟨gb128, 2, none⟩ (.int .i64 ((rd_T30 l1 x41_2).f2))) = w41 at n0_ n1_ n2_ n3_ ⊢
                    have HO_8 := n0_
                    have BK118 := n1_
                    have BK128 := n2_
                    have HB := n3_
                    clear n0_ n1_ n2_ n3_
                    have n0_ := Aside0.mk (Kd.S_drew HO_8.out)
                    have n1_ := Aside0.mk (blk_drew BK118.out)
                    have n2_ := Aside0.mk (blk_drew BK128.out)
                    have n3_ := Aside0.mk (below_drew1 HB.out)
                    clear HO_8
                    clear BK118
                    clear BK128
                    clear HB
                    have HO_8 := n0_
                    have BK118 := n1_
                    have BK128 := n2_
                    have HB := n3_
                    clear n0_ n1_ n2_ n3_
                    have p129 : 0 ≤ ((ji27) : Int) := of_decide_eq_true (by first | (with_reducible assumption) | assumption)
                    have q129 : (ji27) < (x8_2.length : Int) := of_decide_eq_true (by first | (with_reducible assumption) | assumption)
                    obtain ⟨ad129, A129_0, c129_0, e129, hx129_0, hl129_0, hi129_0⟩ := at_L12 (Kd.S_reads' HO_8.out).2.2 (ji27) p129 q129
                    cases e129
                    obtain ⟨ce129, hce129, hMe129, hcc129⟩ := Kd.S_get HO_8.out [] (ji27) p129 (by first | exact q129 | exact of_decide_eq_true (by first | (with_reducible assumption) | assumption) | (have e_ := (Kd.S_reads' HO_8.out).1; omega))
                    obtain ⟨ve129_0, rfl, ge129_0⟩ := hMe129
                    have hv129_0 := hcc129 0 _ rfl
                    rw [Nat.add_zero, show ((Kd.slice 3 (Kd.int .i64))).sz = 1 from rfl, Nat.mul_one] at hv129_0
                    replace hv129_0 := Option.some.inj (hv129_0.symm.trans hx129_0)
                    rw [hv129_0] at ge129_0
                    have HL129_0 := Aside0.mk (show Kd.R (Kd.int .i64) 3 _ _ _ _ (rd_L12 x8_2 (ji27)) from ge129_0)
                    clear hv129_0 ge129_0
                    have HX129_0 := Aside0.mk hx129_0
                    clear hcc129 hce129
                    have HR129_0 := Aside0.mk hi129_0
                    have HC129_0 := Aside0.mk hl129_0
                    clear hi129_0 hl129_0
                    replace p129 := eq_true p129
                    replace q129 := eq_true q129
                    have p130 : 0 ≤ ((ji27) : Int) := of_decide_eq_true (by first | (with_reducible assumption) | assumption)
                    have q130 : (ji27) < ((rd_L12 x8_2 (ji27)).length : Int) := of_decide_eq_true (by first | (with_reducible assumption) | assumption)
                    obtain ⟨ad130, e130, hx130_0⟩ := Kd.at_int (by repeat (first | (with_reducible exact HR129_0.out) | (with_reducible refine Kd.C_alloc ?_ _) | (with_reducible refine Kd.C_drewN ?_ _) | (with_reducible refine Kd.C_drew ?_) | exact HR129_0.out)) (ji27) p130 q130
                    cases e130
                    replace p130 := eq_true p130
                    replace q130 := eq_true q130
                    have p31 : 0 ≤ ((ji27) : Int) := of_decide_eq_true (by first | (with_reducible assumption) | assumption)
                    have q31 : ((ji27) : Int) < (((rd_L12 x8_2 (ji27)).length : Int) : Int) := of_decide_eq_true (by first | (with_reducible assumption) | assumption)
                    obtain ⟨go31, co31, eo31, gb31, gl31, cl31, HG31⟩ := Kd.R_form HL129_0.out (by omega)
                    (first | cases eo31 | (injection eo31 with ea_ en_ ec_; (first | subst ea_ | (injection ea_ with ea_; subst ea_)); subst ec_; clear en_))
                    have GB31 := Aside0.mk gb31
                    have GG31 := Aside0.mk HG31
                    clear gb31 gl31 HG31
                    (first | simp only [add_plain] at hx130_0 | skip)
                    obtain ⟨hx31_0, hf31_0⟩ := Kd.R_celln 0 HL129_0.out ((ji27) : Int) p31 q31
                    replace p31 := eq_true p31
                    replace q31 := eq_true q31
                    have hq43 : ((ji27) : Int) < (x8_2.length : Int) := (by have h_ : ((ji27) : Int) < ((x8_2.length : Int) : Int) := of_decide_eq_true (by first | (with_reducible assumption) | assumption); first | exact h_ | (have e_ := (Kd.S_reads' HO_8.out).1; omega) | simpa only [List.length_set, List.length_set] using h_)
                    obtain ⟨oki43, ce43, hcl43, hM43, hcc43, hok43, hbk43⟩ := Kd.S_borrow HO_8.out [] ((ji27) : Int) (of_decide_eq_true (by first | (with_reducible assumption) | assumption)) (by first | exact hq43 | (have h_ := hq43; simpa only [List.length_set, List.length_set] using h_))
                    obtain ⟨ve43_0, rfl, ge43_0⟩ := hM43
                    have hv43 := hcc43 0 _ rfl
                    rw [Nat.add_zero, show ((Kd.slice 3 (Kd.int .i64))).sz = 1 from rfl, Nat.mul_one] at hv43
                    replace hv43 := Option.some.inj (hv43.symm.trans HX129_0.out)
                    subst hv43
                    clear hcc43 hcl43
                    replace ge43_0 := (show Kd.R (Kd.int .i64) 3 _ _ _ _ (rd_L12 x8_2 (ji27)) from ge43_0)
                    have HP43 := Kd.R_putg ge43_0 ((ji27) : Int) (wrap64 ((rd (rd_L12 x8_2 (ji27)) (ji27)) + 1))
                    rw [← Ny131.out] at HP43
                    have HS43 := hbk43 HP43.2 (fun k_ e_ => by injection e_ with e_; subst e_; exact ge43_0.1 _ rfl) (x' := y131) (Kd.M_row HP43.1)
                    rw [← Ny133.out] at HS43
                    have HQ43 := Aside0.mk HS43
                    clear HP43 HS43 hbk43 hok43
                    refine start_ (n := 14) (S := fun w' => w'.cell? ⟨gb128, 0, none⟩ = some (.int .i64 ((rd_T30 l1 x41_2).f0)) ∧ w'.cell? ⟨gb128, 1, none⟩ = some (.int .i64 ((rd_T30 l1 x41_2).f1)) ∧ w'.cell? ⟨gb128, 2, none⟩ = some (.int .i64 ((rd_T30 l1 x41_2).f2)) ∧ w'.cell? (ad129.add ((ji27)).toNat) = some (.slice (some ⟨go31, 0, none⟩) (rd_L12 x8_2 (ji27)).length c129_0) ∧ w'.cell? ⟨go31, ((ji27)).toNat, none⟩ = some (.int .i64 (rd (rd_L12 x8_2 (ji27)) (ji27)))) (ds := [13]) #[false, false, false, false, false, false, false, false, false, false, false, false, false, false] (by kernel_rfl) rfl rfl ⟨(blk_cell BK128.out 0).trans rfl, (blk_cell BK128.out 1).trans rfl, (blk_cell BK128.out 2).trans rfl, hx129_0, hx130_0⟩ (fun hHeld => ?_); refine with_tabW branch_Count.tab14 branch_Count.bits14 (fun HT_ HW_ => ?_)
                    generalize w41.drew = w42 at HO_8 BK118 BK128 HB GG31 HL129_0 HQ43 HR129_0 HX129_0 hf31_0 hx129_0 hx130_0 hx31_0 hHeld ⊢
                    refine pure_ (i := 0) (N := some 48) (v := ?_) (a' := ?_) #[true, false, false, false, false, false, false, false, false, false, false, false, false, false] rfl rfl (any_of HT_.out (by kernel_rfl)) (fun _ _ _ h => h) (Or.inl ⟨by rfl, ?_⟩) ?_ ?_
                    rotate_left
                    ·intro w'
                     go_simp
                     with_reducible rfl
                    rotate_left
                    ·simp only [Act.put, List.setIfInBounds_toArray, List.set_cons_zero, List.set_cons_succ, i64_w, i32_w]
                     rfl
                    refine pure_ (i := 1) (N := some 49) (v := ?_) (a' := ?_) #[true, true, false, false, false, false, false, false, false, false, false, false, false, false] rfl rfl (any_of HT_.out (by kernel_rfl)) (fun _ _ _ h => h) (Or.inl ⟨by rfl, ?_⟩) ?_ ?_
                    rotate_left
                    ·intro w'
                     go_simp
                     with_reducible rfl
                    rotate_left
                    ·simp only [Act.put, List.setIfInBounds_toArray, List.set_cons_zero, List.set_cons_succ, i64_w, i32_w]
                     rfl
                    refine pure_ (i := 6) (N := some 54) (v := ?_) (a' := ?_) #[true, true, false, false, false, false, true, false, false, false, false, false, false, false] rfl rfl (any_of HT_.out (by kernel_rfl)) (fun _ _ _ h => h) (Or.inl ⟨by rfl, ?_⟩) ?_ ?_
                    rotate_left
                    ·intro w'
                     go_simp
                     with_reducible rfl
                    rotate_left
                    ·simp only [Act.put, List.setIfInBounds_toArray, List.set_cons_zero, List.set_cons_succ, i64_w, i32_w]
                     rfl
                    refine take_ (i := 2) (N := some 50) (v := ?_) (a' := ?_) #[true, true, true, false, false, false, true, false, false, false, false, false, false, false] rfl rfl (take_ofW HT_.out HW_.out (by kernel_rfl)) (fun _ _ _ h => h) (Or.inl ⟨by rfl, ?_⟩) hHeld ?_ ?_
                    rotate_left
                    ·rintro w' ⟨s0, s1, s2, s3, s4⟩
                     go_simp
                     with_reducible rfl
                    rotate_left
                    ·simp only [Act.put, List.setIfInBounds_toArray, List.set_cons_zero, List.set_cons_succ, i64_w, i32_w]
                     rfl
                    refine pure_ (i := 3) (N := some 51) (v := ?_) (a' := ?_) #[true, true, true, true, false, false, true, false, false, false, false, false, false, false] rfl rfl (any_of HT_.out (by kernel_rfl)) (fun _ _ _ h => h) (Or.inl ⟨by rfl, ?_⟩) ?_ ?_
                    rotate_left
                    ·intro w'
                     go_simp
                     with_reducible rfl
                    rotate_left
                    ·simp only [Act.put, List.setIfInBounds_toArray, List.set_cons_zero, List.set_cons_succ, i64_w, i32_w]
                     rfl
                    refine pure_ (i := 4) (N := some 52) (v := ?_) (a' := ?_) #[true, true, true, true, true, false, true, false, false, false, false, false, false, false] rfl rfl (any_of HT_.out (by kernel_rfl)) (fun _ _ _ h => h) (Or.inl ⟨by rfl, ?_⟩) ?_ ?_
                    rotate_left
                    ·intro w'
                     go_simp
                     with_reducible rfl
                    rotate_left
                    ·simp only [Act.put, List.setIfInBounds_toArray, List.set_cons_zero, List.set_cons_succ, i64_w, i32_w]
                     rfl
                    refine take_ (i := 5) (N := some 53) (v := ?_) (a' := ?_) #[true, true, true, true, true, true, true, false, false, false, false, false, false, false] rfl rfl (take_ofW HT_.out HW_.out (by kernel_rfl)) (fun _ _ _ h => h) (Or.inl ⟨by rfl, ?_⟩) hHeld ?_ ?_
                    rotate_left
                    ·rintro w' ⟨s0, s1, s2, s3, s4⟩
                     go_simp
                     with_reducible rfl
                    rotate_left
                    ·simp only [Act.put, List.setIfInBounds_toArray, List.set_cons_zero, List.set_cons_succ, i64_w, i32_w]
                     rfl
                    refine take_ (i := 7) (N := some 55) (v := ?_) (a' := ?_) #[true, true, true, true, true, true, true, true, false, false, false, false, false, false] rfl rfl (take_ofW HT_.out HW_.out (by kernel_rfl)) (fun _ _ _ h => h) (Or.inl ⟨by rfl, ?_⟩) hHeld ?_ ?_
                    rotate_left
                    ·rintro w' ⟨s0, s1, s2, s3, s4⟩
                     go_simp
                     with_reducible rfl
                    rotate_left
                    ·simp only [Act.put, List.setIfInBounds_toArray, List.set_cons_zero, List.set_cons_succ, i64_w, i32_w]
                     rfl
                    refine pure_ (i := 8) (N := some 56) (v := ?_) (a' := ?_) #[true, true, true, true, true, true, true, true, true, false, false, false, false, false] rfl rfl (any_of HT_.out (by kernel_rfl)) (fun _ _ _ h => h) (Or.inl ⟨by rfl, ?_⟩) ?_ ?_
                    rotate_left
                    ·intro w'
                     go_simp
                     with_reducible rfl
                    rotate_left
                    ·simp only [Act.put, List.setIfInBounds_toArray, List.set_cons_zero, List.set_cons_succ, i64_w, i32_w]
                     rfl
                    refine pure_ (i := 9) (N := some 57) (v := ?_) (a' := ?_) #[true, true, true, true, true, true, true, true, true, true, false, false, false, false] rfl rfl (any_of HT_.out (by kernel_rfl)) (fun _ _ _ h => h) (Or.inl ⟨by rfl, ?_⟩) ?_ ?_
                    rotate_left
                    ·intro w'
                     go_simp
                     with_reducible rfl
                    rotate_left
                    ·simp only [Act.put, List.setIfInBounds_toArray, List.set_cons_zero, List.set_cons_succ, i64_w, i32_w]
                     rfl
                    refine take_ (i := 10) (N := some 58) (v := ?_) (a' := ?_) #[true, true, true, true, true, true, true, true, true, true, true, false, false, false] rfl rfl (take_ofW HT_.out HW_.out (by kernel_rfl)) (fun _ _ _ h => h) (Or.inl ⟨by rfl, ?_⟩) hHeld ?_ ?_
                    rotate_left
                    ·rintro w' ⟨s0, s1, s2, s3, s4⟩
                     go_simp
                     with_reducible rfl
                    rotate_left
                    ·simp only [Act.put, List.setIfInBounds_toArray, List.set_cons_zero, List.set_cons_succ, i64_w, i32_w]
                     rfl
                    refine pure_ (i := 11) (N := some 59) (v := ?_) (a' := ?_) #[true, true, true, true, true, true, true, true, true, true, true, true, false, false] rfl rfl (any_of HT_.out (by kernel_rfl)) (fun _ _ _ h => h) (Or.inl ⟨by rfl, ?_⟩) ?_ ?_
                    rotate_left
                    ·intro w'
                     go_simp
                     with_reducible rfl
                    rotate_left
                    ·simp only [Act.put, List.setIfInBounds_toArray, List.set_cons_zero, List.set_cons_succ, i64_w, i32_w]
                     rfl
                    refine pure_ (i := 12) (N := some 60) (v := ?_) (a' := ?_) #[true, true, true, true, true, true, true, true, true, true, true, true, true, false] rfl rfl (any_of HT_.out (by kernel_rfl)) (fun _ _ _ h => h) (Or.inl ⟨by rfl, ?_⟩) ?_ ?_
                    rotate_left
                    ·intro w'
                     go_simp
                     with_reducible rfl
                    rotate_left
                    ·simp only [Act.put, List.setIfInBounds_toArray, List.set_cons_zero, List.set_cons_succ, i64_w, i32_w]
                     rfl
                    refine last_ (i := 13) (N := none) #[true, true, true, true, true, true, true, true, true, true, true, true, true, true] rfl rfl (one_of HT_.out (by kernel_rfl)) (by decide) (fun K hK => ?_)
                    refine skip_ (w1 := ?_) (by rfl) rfl ?_ ?_
                    rotate_left
                    ·go_simp
                     rfl
                    refine hK.out _ _ ?_
                    clear hK K
                    refine done_ (done_of HT_.out (by kernel_rfl)) ?_
                    have n0_ : Aside0 (Kd.S (Kd.slice 3 (Kd.int .i64)) 28 (w42.setCell ⟨go31, ((ji27) : Int).toNat, none⟩ (.int .i64 (wrap64 ((rd (rd_L12 x8_2 (ji27)) (ji27)) + 1)))) w.heap.size (fun _ => True) (.slice (some ad129) x8_2.length co11) y133) := ⟨by (with_reducible repeat (first | apply Kd.S_alloc | apply Kd.S_drewN | apply Kd.S_drew)); exact HQ43.out⟩
                    have n1_ : Aside0 ((w42.setCell ⟨go31, ((ji27) : Int).toNat, none⟩ (.int .i64 (wrap64 ((rd (rd_L12 x8_2 (ji27)) (ji27)) + 1)))).heap[gb118]? = some (.cells #[.int .i64 a0, .slice (some ad127) l1.length c1, .map mr118] 70 (0, 0))) := ⟨by (with_reducible repeat (first | refine blk_drewN ?_ _ | refine blk_drew ?_ | refine blk_alloc ?_ _)); refine blk_far ?_ (by have h_ := Kd.R_ne HL129_0.out BK118.out (by decide); intro e_; exact h_ (by rw [e_]; rfl)) _; (with_reducible repeat (first | refine blk_drewN ?_ _ | refine blk_drew ?_ | refine blk_alloc ?_ _)); exact BK118.out⟩
                    have n2_ : Aside0 ((w42.setCell ⟨go31, ((ji27) : Int).toNat, none⟩ (.int .i64 (wrap64 ((rd (rd_L12 x8_2 (ji27)) (ji27)) + 1)))).heap[gb128]? = some (.cells #[.int .i64 ((rd_T30 l1 x41_2).f0), .int .i64 ((rd_T30 l1 x41_2).f1), .int .i64 ((rd_T30 l1 x41_2).f2)] 30 (0, 0))) := ⟨by (with_reducible repeat (first | refine blk_drewN ?_ _ | refine blk_drew ?_ | refine blk_alloc ?_ _)); refine blk_far ?_ (by have h_ := Kd.R_ne HL129_0.out BK128.out (by decide); intro e_; exact h_ (by rw [e_]; rfl)) _; (with_reducible repeat (first | refine blk_drewN ?_ _ | refine blk_drew ?_ | refine blk_alloc ?_ _)); exact BK128.out⟩
                    have n3_ : Aside0 (Below w.heap.size w (w42.setCell ⟨go31, ((ji27) : Int).toNat, none⟩ (.int .i64 (wrap64 ((rd (rd_L12 x8_2 (ji27)) (ji27)) + 1))))) := ⟨by repeat (first | (with_reducible first | exact HB.out | apply below_alloc | apply pw_below_drewN | apply below_drew1 | refine below_set ?_ GB31.out | refine below_set ?_ GE118.out | refine below_set ?_ GE128.out) | exact HB.out)⟩
                    (try clear HO_8)
                    (try clear BK118)
                    (try clear BK128)
                    (try clear HB)
                    generalize (w42.setCell ⟨go31, ((ji27) : Int).toNat, none⟩ (.int .i64 (wrap64 ((rd (rd_L12 x8_2 (ji27)) (ji27)) + 1)))) = w45 at n0_ n1_ n2_ n3_ ⊢
                    have HO_8 := n0_
                    have BK118 := n1_
                    have BK128 := n2_
                    have HB := n3_
                    clear n0_ n1_ n2_ n3_
                    have hcz46_0 : w45.cell? ⟨gb128, 0, none⟩ = some (.int .i64 ((rd_T30 l1 x41_2).f0)) := (blk_cell BK128.out 0).trans rfl
                    have hcz46_1 : w45.cell? ⟨gb128, 1, none⟩ = some (.int .i64 ((rd_T30 l1 x41_2).f1)) := (blk_cell BK128.out 1).trans rfl
                    have hcz46_2 : w45.cell? ⟨gb128, 2, none⟩ = some (.int .i64 ((rd_T30 l1 x41_2).f2)) := (blk_cell BK128.out 2).trans rfl
                    have hfz46_0 := blk_frozen BK128.out 0
                    have hfz46_1 := blk_frozen BK128.out 1
                    have hfz46_2 := blk_frozen BK128.out 2
                    try go_wp2
                    have n0_ := Aside0.mk (Kd.S_drew HO_8.out)
                    have n1_ := Aside0.mk (blk_drew BK118.out)
                    have n2_ := Aside0.mk (blk_drew BK128.out)
                    have n3_ := Aside0.mk (below_drew1 HB.out)
                    clear HO_8
                    clear BK118
                    clear BK128
                    clear HB
                    have HO_8 := n0_
                    have BK118 := n1_
                    have BK128 := n2_
                    have HB := n3_
                    clear n0_ n1_ n2_ n3_
                    have p134 : 0 ≤ ((ji33) : Int) := of_decide_eq_true (by first | (with_reducible assumption) | assumption)
                    have q134 : (ji33) < (y133.length : Int) := (by have h_ : ((ji33) : Int) < ((x8_2.length : Int) : Int) := of_decide_eq_true (by first | (with_reducible assumption) | assumption); first | (have e_ := (Kd.S_reads' HO_8.out).1; omega) | simpa only [Ny133.out, List.length_set] using h_)
                    have ql134 : (((ji33) : Int) < ((x8_2.length : Int) : Int)) = True := eq_true (of_decide_eq_true (by first | (with_reducible assumption) | assumption))
                    obtain ⟨ad134, A134_0, c134_0, e134, hx134_0, hl134_0, hi134_0⟩ := at_L12 (Kd.S_reads' HO_8.out).2.2 (ji33) p134 q134
                    obtain rfl : ad129 = ad134 := (by injection e134)
                    obtain ⟨ce134, hce134, hMe134, hcc134⟩ := Kd.S_get HO_8.out [] (ji33) p134 (by first | exact q134 | exact of_decide_eq_true (by first | (with_reducible assumption) | assumption) | (have e_ := (Kd.S_reads' HO_8.out).1; omega))
                    obtain ⟨ve134_0, rfl, ge134_0⟩ := hMe134
                    have hv134_0 := hcc134 0 _ rfl
                    rw [Nat.add_zero, show ((Kd.slice 3 (Kd.int .i64))).sz = 1 from rfl, Nat.mul_one] at hv134_0
                    replace hv134_0 := Option.some.inj (hv134_0.symm.trans hx134_0)
                    rw [hv134_0] at ge134_0
                    have HL134_0 := Aside0.mk (show Kd.R (Kd.int .i64) 3 _ _ _ _ (rd_L12 y133 (ji33)) from ge134_0)
                    clear hv134_0 ge134_0
                    have HX134_0 := Aside0.mk hx134_0
                    clear hcc134 hce134
                    have HR134_0 := Aside0.mk hi134_0
                    have HC134_0 := Aside0.mk hl134_0
                    clear hi134_0 hl134_0
                    replace p134 := eq_true p134
                    replace q134 := eq_true q134
                    have p135 : 0 ≤ ((ji27) : Int) := of_decide_eq_true (by first | (with_reducible assumption) | assumption)
                    have q135 : (ji27) < ((rd_L12 y133 (ji33)).length : Int) := of_decide_eq_true (by first | (with_reducible assumption) | assumption)
                    obtain ⟨ad135, e135, hx135_0⟩ := Kd.at_int (by repeat (first | (with_reducible exact HR134_0.out) | (with_reducible refine Kd.C_alloc ?_ _) | (with_reducible refine Kd.C_drewN ?_ _) | (with_reducible refine Kd.C_drew ?_) | exact HR134_0.out)) (ji27) p135 q135
                    cases e135
                    replace p135 := eq_true p135
                    replace q135 := eq_true q135
                    have p37 : 0 ≤ ((ji27) : Int) := of_decide_eq_true (by first | (with_reducible assumption) | assumption)
                    have q37 : ((ji27) : Int) < (((rd_L12 y133 (ji33)).length : Int) : Int) := of_decide_eq_true (by first | (with_reducible assumption) | assumption)
                    obtain ⟨go37, co37, eo37, gb37, gl37, cl37, HG37⟩ := Kd.R_form HL134_0.out (by omega)
                    (first | cases eo37 | (injection eo37 with ea_ en_ ec_; (first | subst ea_ | (injection ea_ with ea_; subst ea_)); subst ec_; clear en_))
                    have GB37 := Aside0.mk gb37
                    have GG37 := Aside0.mk HG37
                    clear gb37 gl37 HG37
                    (first | simp only [add_plain] at hx135_0 | skip)
                    obtain ⟨hx37_0, hf37_0⟩ := Kd.R_celln 0 HL134_0.out ((ji27) : Int) p37 q37
                    replace p37 := eq_true p37
                    replace q37 := eq_true q37
                    have hq48 : ((ji33) : Int) < (y133.length : Int) := (by have h_ : ((ji33) : Int) < ((x8_2.length : Int) : Int) := of_decide_eq_true (by first | (with_reducible assumption) | assumption); first | exact h_ | (have e_ := (Kd.S_reads' HO_8.out).1; omega) | simpa only [Ny133.out, List.length_set] using h_)
                    obtain ⟨oki48, ce48, hcl48, hM48, hcc48, hok48, hbk48⟩ := Kd.S_borrow HO_8.out [] ((ji33) : Int) (of_decide_eq_true (by first | (with_reducible assumption) | assumption)) (by first | exact hq48 | (have h_ := hq48; simpa only [Ny133.out, List.length_set] using h_))
                    obtain ⟨ve48_0, rfl, ge48_0⟩ := hM48
                    have hv48 := hcc48 0 _ rfl
                    rw [Nat.add_zero, show ((Kd.slice 3 (Kd.int .i64))).sz = 1 from rfl, Nat.mul_one] at hv48
                    replace hv48 := Option.some.inj (hv48.symm.trans HX134_0.out)
                    subst hv48
                    clear hcc48 hcl48
                    replace ge48_0 := (show Kd.R (Kd.int .i64) 3 _ _ _ _ (rd_L12 y133 (ji33)) from ge48_0)
                    have HP48 := Kd.R_putg ge48_0 ((ji27) : Int) (wrap64 ((rd (rd_L12 y133 (ji33)) (ji27)) - 1))
                    rw [← Ny136.out] at HP48
                    have HS48 := hbk48 HP48.2 (fun k_ e_ => by injection e_ with e_; subst e_; exact ge48_0.1 _ rfl) (x' := y136) (Kd.M_row HP48.1)
                    rw [← Ny138.out] at HS48
                    have HQ48 := Aside0.mk HS48
                    clear HP48 HS48 hbk48 hok48
                    refine start_ (n := 14) (S := fun w' => w'.cell? ⟨gb128, 0, none⟩ = some (.int .i64 ((rd_T30 l1 x41_2).f0)) ∧ w'.cell? ⟨gb128, 1, none⟩ = some (.int .i64 ((rd_T30 l1 x41_2).f1)) ∧ w'.cell? ⟨gb128, 2, none⟩ = some (.int .i64 ((rd_T30 l1 x41_2).f2)) ∧ w'.cell? (ad129.add ((ji33)).toNat) = some (.slice (some ⟨go37, 0, none⟩) (rd_L12 y133 (ji33)).length c134_0) ∧ w'.cell? ⟨go37, ((ji27)).toNat, none⟩ = some (.int .i64 (rd (rd_L12 y133 (ji33)) (ji27)))) (ds := [13]) #[false, false, false, false, false, false, false, false, false, false, false, false, false, false] (by kernel_rfl) rfl rfl ⟨(blk_cell BK128.out 0).trans rfl, (blk_cell BK128.out 1).trans rfl, (blk_cell BK128.out 2).trans rfl, hx134_0, hx135_0⟩ (fun hHeld => ?_); refine with_tabW branch_Count.tab16 branch_Count.bits16 (fun HT_ HW_ => ?_)
                    generalize w45.drew = w47 at HO_8 BK118 BK128 HB GG37 HL134_0 HQ48 HR134_0 HX134_0 hf37_0 hx134_0 hx135_0 hx37_0 hHeld ⊢
                    refine pure_ (i := 0) (N := some 64) (v := ?_) (a' := ?_) #[true, false, false, false, false, false, false, false, false, false, false, false, false, false] rfl rfl (any_of HT_.out (by kernel_rfl)) (fun _ _ _ h => h) (Or.inl ⟨by rfl, ?_⟩) ?_ ?_
                    rotate_left
                    ·intro w'
                     go_simp
                     with_reducible rfl
                    rotate_left
                    ·simp only [Act.put, List.setIfInBounds_toArray, List.set_cons_zero, List.set_cons_succ, i64_w, i32_w]
                     rfl
                    refine pure_ (i := 1) (N := some 65) (v := ?_) (a' := ?_) #[true, true, false, false, false, false, false, false, false, false, false, false, false, false] rfl rfl (any_of HT_.out (by kernel_rfl)) (fun _ _ _ h => h) (Or.inl ⟨by rfl, ?_⟩) ?_ ?_
                    rotate_left
                    ·intro w'
                     go_simp
                     with_reducible rfl
                    rotate_left
                    ·simp only [Act.put, List.setIfInBounds_toArray, List.set_cons_zero, List.set_cons_succ, i64_w, i32_w]
                     rfl
                    refine pure_ (i := 6) (N := some 70) (v := ?_) (a' := ?_) #[true, true, false, false, false, false, true, false, false, false, false, false, false, false] rfl rfl (any_of HT_.out (by kernel_rfl)) (fun _ _ _ h => h) (Or.inl ⟨by rfl, ?_⟩) ?_ ?_
                    rotate_left
                    ·intro w'
                     go_simp
                     with_reducible rfl
                    rotate_left
                    ·simp only [Act.put, List.setIfInBounds_toArray, List.set_cons_zero, List.set_cons_succ, i64_w, i32_w]
                     rfl
                    refine take_ (i := 2) (N := some 66) (v := ?_) (a' := ?_) #[true, true, true, false, false, false, true, false, false, false, false, false, false, false] rfl rfl (take_ofW HT_.out HW_.out (by kernel_rfl)) (fun _ _ _ h => h) (Or.inl ⟨by rfl, ?_⟩) hHeld ?_ ?_
                    rotate_left
                    ·rintro w' ⟨s0, s1, s2, s3, s4⟩
                     go_simp
                     with_reducible rfl
                    rotate_left
                    ·simp only [Act.put, List.setIfInBounds_toArray, List.set_cons_zero, List.set_cons_succ, i64_w, i32_w]
                     rfl
                    refine pure_ (i := 3) (N := some 67) (v := ?_) (a' := ?_) #[true, true, true, true, false, false, true, false, false, false, false, false, false, false] rfl rfl (any_of HT_.out (by kernel_rfl)) (fun _ _ _ h => h) (Or.inl ⟨by rfl, ?_⟩) ?_ ?_
                    rotate_left
                    ·intro w'
                     go_simp
                     with_reducible rfl
                    rotate_left
                    ·simp only [Act.put, List.setIfInBounds_toArray, List.set_cons_zero, List.set_cons_succ, i64_w, i32_w]
                     rfl
                    refine pure_ (i := 4) (N := some 68) (v := ?_) (a' := ?_) #[true, true, true, true, true, false, true, false, false, false, false, false, false, false] rfl rfl (any_of HT_.out (by kernel_rfl)) (fun _ _ _ h => h) (Or.inl ⟨by rfl, ?_⟩) ?_ ?_
                    rotate_left
                    ·intro w'
                     go_simp
                     with_reducible rfl
                    rotate_left
                    ·simp only [Act.put, List.setIfInBounds_toArray, List.set_cons_zero, List.set_cons_succ, i64_w, i32_w]
                     rfl
                    refine take_ (i := 5) (N := some 69) (v := ?_) (a' := ?_) #[true, true, true, true, true, true, true, false, false, false, false, false, false, false] rfl rfl (take_ofW HT_.out HW_.out (by kernel_rfl)) (fun _ _ _ h => h) (Or.inl ⟨by rfl, ?_⟩) hHeld ?_ ?_
                    rotate_left
                    ·rintro w' ⟨s0, s1, s2, s3, s4⟩
                     go_simp
                     with_reducible rfl
                    rotate_left
                    ·simp only [Act.put, List.setIfInBounds_toArray, List.set_cons_zero, List.set_cons_succ, i64_w, i32_w]
                     rfl
                    refine take_ (i := 7) (N := some 71) (v := ?_) (a' := ?_) #[true, true, true, true, true, true, true, true, false, false, false, false, false, false] rfl rfl (take_ofW HT_.out HW_.out (by kernel_rfl)) (fun _ _ _ h => h) (Or.inl ⟨by rfl, ?_⟩) hHeld ?_ ?_
                    rotate_left
                    ·rintro w' ⟨s0, s1, s2, s3, s4⟩
                     go_simp
                     with_reducible rfl
                    rotate_left
                    ·simp only [Act.put, List.setIfInBounds_toArray, List.set_cons_zero, List.set_cons_succ, i64_w, i32_w]
                     rfl
                    refine pure_ (i := 8) (N := some 72) (v := ?_) (a' := ?_) #[true, true, true, true, true, true, true, true, true, false, false, false, false, false] rfl rfl (any_of HT_.out (by kernel_rfl)) (fun _ _ _ h => h) (Or.inl ⟨by rfl, ?_⟩) ?_ ?_
                    rotate_left
                    ·intro w'
                     go_simp
                     with_reducible rfl
                    rotate_left
                    ·simp only [Act.put, List.setIfInBounds_toArray, List.set_cons_zero, List.set_cons_succ, i64_w, i32_w]
                     rfl
                    refine pure_ (i := 9) (N := some 73) (v := ?_) (a' := ?_) #[true, true, true, true, true, true, true, true, true, true, false, false, false, false] rfl rfl (any_of HT_.out (by kernel_rfl)) (fun _ _ _ h => h) (Or.inl ⟨by rfl, ?_⟩) ?_ ?_
                    rotate_left
                    ·intro w'
                     go_simp
                     with_reducible rfl
                    rotate_left
                    ·simp only [Act.put, List.setIfInBounds_toArray, List.set_cons_zero, List.set_cons_succ, i64_w, i32_w]
                     rfl
                    refine take_ (i := 10) (N := some 74) (v := ?_) (a' := ?_) #[true, true, true, true, true, true, true, true, true, true, true, false, false, false] rfl rfl (take_ofW HT_.out HW_.out (by kernel_rfl)) (fun _ _ _ h => h) (Or.inl ⟨by rfl, ?_⟩) hHeld ?_ ?_
                    rotate_left
                    ·rintro w' ⟨s0, s1, s2, s3, s4⟩
                     go_simp
                     with_reducible rfl
                    rotate_left
                    ·simp only [Act.put, List.setIfInBounds_toArray, List.set_cons_zero, List.set_cons_succ, i64_w, i32_w]
                     rfl
                    refine pure_ (i := 11) (N := some 75) (v := ?_) (a' := ?_) #[true, true, true, true, true, true, true, true, true, true, true, true, false, false] rfl rfl (any_of HT_.out (by kernel_rfl)) (fun _ _ _ h => h) (Or.inl ⟨by rfl, ?_⟩) ?_ ?_
                    rotate_left
                    ·intro w'
                     go_simp
                     with_reducible rfl
                    rotate_left
                    ·simp only [Act.put, List.setIfInBounds_toArray, List.set_cons_zero, List.set_cons_succ, i64_w, i32_w]
                     rfl
                    refine pure_ (i := 12) (N := some 76) (v := ?_) (a' := ?_) #[true, true, true, true, true, true, true, true, true, true, true, true, true, false] rfl rfl (any_of HT_.out (by kernel_rfl)) (fun _ _ _ h => h) (Or.inl ⟨by rfl, ?_⟩) ?_ ?_
                    rotate_left
                    ·intro w'
                     go_simp
                     with_reducible rfl
                    rotate_left
                    ·simp only [Act.put, List.setIfInBounds_toArray, List.set_cons_zero, List.set_cons_succ, i64_w, i32_w]
                     rfl
                    refine last_ (i := 13) (N := none) #[true, true, true, true, true, true, true, true, true, true, true, true, true, true] rfl rfl (one_of HT_.out (by kernel_rfl)) (by decide) (fun K hK => ?_)
                    refine skip_ (w1 := ?_) (by rfl) rfl ?_ ?_
                    rotate_left
                    ·go_simp
                     rfl
                    refine hK.out _ _ ?_
                    clear hK K
                    refine done_ (done_of HT_.out (by kernel_rfl)) ?_
                    have n0_ : Aside0 (Kd.S (Kd.slice 3 (Kd.int .i64)) 28 (w47.setCell ⟨go37, ((ji27) : Int).toNat, none⟩ (.int .i64 (wrap64 ((rd (rd_L12 y133 (ji33)) (ji27)) - 1)))) w.heap.size (fun _ => True) (.slice (some ad129) x8_2.length co11) y138) := ⟨by (with_reducible repeat (first | apply Kd.S_alloc | apply Kd.S_drewN | apply Kd.S_drew)); exact HQ48.out⟩
                    have n1_ : Aside0 ((w47.setCell ⟨go37, ((ji27) : Int).toNat, none⟩ (.int .i64 (wrap64 ((rd (rd_L12 y133 (ji33)) (ji27)) - 1)))).heap[gb118]? = some (.cells #[.int .i64 a0, .slice (some ad127) l1.length c1, .map mr118] 70 (0, 0))) := ⟨by (with_reducible repeat (first | refine blk_drewN ?_ _ | refine blk_drew ?_ | refine blk_alloc ?_ _)); refine blk_far ?_ (by have h_ := Kd.R_ne HL134_0.out BK118.out (by decide); intro e_; exact h_ (by rw [e_]; rfl)) _; (with_reducible repeat (first | refine blk_drewN ?_ _ | refine blk_drew ?_ | refine blk_alloc ?_ _)); exact BK118.out⟩
                    have n2_ : Aside0 ((w47.setCell ⟨go37, ((ji27) : Int).toNat, none⟩ (.int .i64 (wrap64 ((rd (rd_L12 y133 (ji33)) (ji27)) - 1)))).heap[gb128]? = some (.cells #[.int .i64 ((rd_T30 l1 x41_2).f0), .int .i64 ((rd_T30 l1 x41_2).f1), .int .i64 ((rd_T30 l1 x41_2).f2)] 30 (0, 0))) := ⟨by (with_reducible repeat (first | refine blk_drewN ?_ _ | refine blk_drew ?_ | refine blk_alloc ?_ _)); refine blk_far ?_ (by have h_ := Kd.R_ne HL134_0.out BK128.out (by decide); intro e_; exact h_ (by rw [e_]; rfl)) _; (with_reducible repeat (first | refine blk_drewN ?_ _ | refine blk_drew ?_ | refine blk_alloc ?_ _)); exact BK128.out⟩
                    have n3_ : Aside0 (Below w.heap.size w (w47.setCell ⟨go37, ((ji27) : Int).toNat, none⟩ (.int .i64 (wrap64 ((rd (rd_L12 y133 (ji33)) (ji27)) - 1))))) := ⟨by repeat (first | (with_reducible first | exact HB.out | apply below_alloc | apply pw_below_drewN | apply below_drew1 | refine below_set ?_ GB37.out | refine below_set ?_ GE118.out | refine below_set ?_ GE128.out) | exact HB.out)⟩
                    (try clear HO_8)
                    (try clear BK118)
                    (try clear BK128)
                    (try clear HB)
                    generalize (w47.setCell ⟨go37, ((ji27) : Int).toNat, none⟩ (.int .i64 (wrap64 ((rd (rd_L12 y133 (ji33)) (ji27)) - 1)))) = w50 at n0_ n1_ n2_ n3_ ⊢
                    have HO_8 := n0_
                    have BK118 := n1_
                    have BK128 := n2_
                    have HB := n3_
                    clear n0_ n1_ n2_ n3_
                    try go_wp2
                    (try simp only [← hl8_2])
                    go_roundg k2
                    case measure => have := HK1.out; have := HK2.out; omega
                    case rel => exact ⟨(y138), (wrap64 (x41_2 + 1)), (by first | rfl | (simp; done) | (simp [*]; done)), H', ⟨by have := HK1.out; have := HK2.out; omega⟩, ⟨by (try simp only [hl8_1]); (try simp only [hl8_2]); (with_reducible repeat (first | apply Kd.S_alloc | apply Kd.S_drewN | apply Kd.S_drew)); exact HO_8.out⟩, ⟨by (try simp only [hl8_1]); (try simp only [hl8_2]); (with_reducible repeat (first | refine blk_drewN ?_ _ | refine blk_drew ?_ | refine blk_alloc ?_ _)); exact BK118.out⟩, ⟨by repeat (first | (with_reducible first | exact HB.out | apply below_alloc | apply pw_below_drewN | apply below_drew1 | refine below_set ?_ GE118.out | refine below_set ?_ GE128.out) | exact HB.out)⟩⟩
                   ·rw [if_neg c36] at H
                    exact absurd H (by simp)
                  ·rw [if_neg c35] at H
                   exact absurd H (by simp)
                 ·rw [if_neg c34] at H
                  exact absurd H (by simp)
                ·rw [if_neg c32] at H
                 have c32b0 : decide (0 < ((rd_T30 l1 x41_2).f0)) = false := decide_eq_false c32
                 clear c32
                 have H' := Aside0.mk H
                 clear H
                 have p127 : 0 ≤ (x41_2 : Int) := of_decide_eq_true (by first | (with_reducible assumption) | assumption)
                 have q127 : x41_2 < (l1.length : Int) := of_decide_eq_true (by first | (with_reducible assumption) | assumption)
                 obtain ⟨ad127, e127, hx127_0, hx127_1, hx127_2⟩ := at_T30 HR1.out x41_2 p127 q127
                 cases e127
                 replace hx127_0 := (HB.out.cell (World.block_lt_of_cell? w _ hx127_0)).trans hx127_0
                 replace hx127_1 := (HB.out.cell (World.block_lt_of_cell? w _ hx127_1)).trans hx127_1
                 replace hx127_2 := (HB.out.cell (World.block_lt_of_cell? w _ hx127_2)).trans hx127_2
                 replace p127 := eq_true p127
                 replace q127 := eq_true q127
                 try go_wp2_with (first | ((with_reducible refine gate_dst (N := 11) rfl ?_); refine box_event ?hg (N := 11) ?hd (cs := #[.int .i64 0, .int .i64 0, .int .i64 0]) (t := 30) ?hr ?_; (case hd => rfl); (case hg => rfl); (case hr => first | (go_simp; done) | (go_simp; rfl)); intro gb128 hg w51 hbox hb; have n0_ := Aside0.mk (Kd.S_below (by (with_reducible repeat (first | apply Kd.S_alloc | apply Kd.S_drewN | apply Kd.S_drew)); exact HO_8.out) hb); have n1_ := Aside0.mk (blk_below (g := gb118) (o := .cells #[.int .i64 a0, .slice (some ad127) l1.length c1, .map mr118] 70 (0, 0)) (by (with_reducible repeat (first | refine blk_drewN ?_ _ | refine blk_drew ?_ | refine blk_alloc ?_ _)); exact BK118.out) hb); have n2_ := Aside0.mk (below_step (by repeat (first | (with_reducible first | exact HB.out | apply below_alloc | apply pw_below_drewN | apply below_drew1 | refine below_set ?_ GE118.out) | exact HB.out)) hb); have n3_ := Aside0.mk (hbox); have n4_ := Aside0.mk ((by rw [hg]; exact (below_size (by repeat (first | (with_reducible first | exact HB.out | apply below_alloc | apply pw_below_drewN | apply below_drew1 | refine below_set ?_ GE118.out) | exact HB.out))) : w.heap.size ≤ gb128)); have n5_ := Aside0.mk ((by rw [hg]; exact (below_size (by repeat (first | (with_reducible first | exact HB.out | apply below_alloc | apply pw_below_drewN | apply below_drew1 | refine below_set ?_ GE118.out) | exact HB.out))) : w.heap.size ≤ gb128)); have n6_ := Aside0.mk ((by rw [hg]; exact Nat.ne_of_lt (blk_lt (g := gb118) (o := .cells #[.int .i64 a0, .slice (some ad127) l1.length c1, .map mr118] 70 (0, 0)) (by (with_reducible repeat (first | refine blk_drewN ?_ _ | refine blk_drew ?_ | refine blk_alloc ?_ _)); exact BK118.out)) : gb118 ≠ gb128)); have n7_ := Aside0.mk ((by rw [hg]; exact Nat.ne_of_gt (blk_lt (g := gb118) (o := .cells #[.int .i64 a0, .slice (some ad127) l1.length c1, .map mr118] 70 (0, 0)) (by (with_reducible repeat (first | refine blk_drewN ?_ _ | refine blk_drew ?_ | refine blk_alloc ?_ _)); exact BK118.out)) : gb128 ≠ gb118)); clear HO_8; clear BK118; clear HB; have HO_8 := n0_; have BK118 := n1_; have HB := n2_; have BK128 := n3_; have GW128 := n4_; have GE128 := n5_; have NB118_128 := n6_; have NB128_118 := n7_; clear n0_ n1_ n2_ n3_ n4_ n5_ n6_ n7_; clear hb hbox hg; have hnb52 := NB128_118.out; have hnc52 := NB118_128.out; have hcz53_0 : w51.cell? ⟨gb128, 0, none⟩ = some (.int .i64 0) := (blk_cell BK128.out 0).trans rfl; have hcz53_1 : w51.cell? ⟨gb128, 1, none⟩ = some (.int .i64 0) := (blk_cell BK128.out 1).trans rfl; have hcz53_2 : w51.cell? ⟨gb128, 2, none⟩ = some (.int .i64 0) := (blk_cell BK128.out 2).trans rfl; have hfz53_0 := blk_frozen BK128.out 0; have hfz53_1 := blk_frozen BK128.out 1; have hfz53_2 := blk_frozen BK128.out 2))
                 have n0_ : Aside0 (Kd.S (Kd.slice 3 (Kd.int .i64)) 28 (((w51.setCell ⟨gb128, 0, none⟩ (.int .i64 ((rd_T30 l1 x41_2).f0))).setCell ⟨gb128, 1, none⟩ (.int .i64 ((rd_T30 l1 x41_2).f1))).setCell ⟨gb128, 2, none⟩ (.int .i64 ((rd_T30 l1 x41_2).f2))) w.heap.size (fun _ => True) (.slice Ao11 x8_2.length co11) x8_2) := ⟨by (with_reducible repeat (first | apply Kd.S_alloc | apply Kd.S_drewN | apply Kd.S_drew)); exact Kd.S_mono (Kd.S_far (p := ⟨gb128, 2, none⟩) (Kd.S_far (p := ⟨gb128, 1, none⟩) (Kd.S_far (p := ⟨gb128, 0, none⟩) (Kd.S_types HO_8.out BK128.out (by decide)) (fun _ hk => hk.2) (.int .i64 ((rd_T30 l1 x41_2).f0))) (fun _ hk => hk.2) (.int .i64 ((rd_T30 l1 x41_2).f1))) (fun _ hk => hk.2) (.int .i64 ((rd_T30 l1 x41_2).f2))) (fun _ hk => trivial)⟩
                 have n1_ : Aside0 ((((w51.setCell ⟨gb128, 0, none⟩ (.int .i64 ((rd_T30 l1 x41_2).f0))).setCell ⟨gb128, 1, none⟩ (.int .i64 ((rd_T30 l1 x41_2).f1))).setCell ⟨gb128, 2, none⟩ (.int .i64 ((rd_T30 l1 x41_2).f2))).heap[gb118]? = some (.cells #[.int .i64 a0, .slice (some ad127) l1.length c1, .map mr118] 70 (0, 0))) := ⟨by (with_reducible repeat (first | refine blk_drewN ?_ _ | refine blk_drew ?_ | refine blk_alloc ?_ _)); refine blk_far ?_ NB118_128.out _; (with_reducible repeat (first | refine blk_drewN ?_ _ | refine blk_drew ?_ | refine blk_alloc ?_ _)); refine blk_far ?_ NB118_128.out _; (with_reducible repeat (first | refine blk_drewN ?_ _ | refine blk_drew ?_ | refine blk_alloc ?_ _)); refine blk_far ?_ NB118_128.out _; (with_reducible repeat (first | refine blk_drewN ?_ _ | refine blk_drew ?_ | refine blk_alloc ?_ _)); exact BK118.out⟩
                 have n2_ : Aside0 ((((w51.setCell ⟨gb128, 0, none⟩ (.int .i64 ((rd_T30 l1 x41_2).f0))).setCell ⟨gb128, 1, none⟩ (.int .i64 ((rd_T30 l1 x41_2).f1))).setCell ⟨gb128, 2, none⟩ (.int .i64 ((rd_T30 l1 x41_2).f2))).heap[gb128]? = some (.cells #[.int .i64 ((rd_T30 l1 x41_2).f0), .int .i64 ((rd_T30 l1 x41_2).f1), .int .i64 ((rd_T30 l1 x41_2).f2)] 30 (0, 0))) := ⟨by (with_reducible repeat (first | refine blk_drewN ?_ _ | refine blk_drew ?_ | refine blk_alloc ?_ _)); refine blk_put (cs := #[.int .i64 ((rd_T30 l1 x41_2).f0), .int .i64 ((rd_T30 l1 x41_2).f1), .int .i64 0]) ?_ 2 _ rfl; (with_reducible repeat (first | refine blk_drewN ?_ _ | refine blk_drew ?_ | refine blk_alloc ?_ _)); refine blk_put (cs := #[.int .i64 ((rd_T30 l1 x41_2).f0), .int .i64 0, .int .i64 0]) ?_ 1 _ rfl; (with_reducible repeat (first | refine blk_drewN ?_ _ | refine blk_drew ?_ | refine blk_alloc ?_ _)); refine blk_put (cs := #[.int .i64 0, .int .i64 0, .int .i64 0]) ?_ 0 _ rfl; (with_reducible repeat (first | refine blk_drewN ?_ _ | refine blk_drew ?_ | refine blk_alloc ?_ _)); exact BK128.out⟩
                 have n3_ : Aside0 (Below w.heap.size w (((w51.setCell ⟨gb128, 0, none⟩ (.int .i64 ((rd_T30 l1 x41_2).f0))).setCell ⟨gb128, 1, none⟩ (.int .i64 ((rd_T30 l1 x41_2).f1))).setCell ⟨gb128, 2, none⟩ (.int .i64 ((rd_T30 l1 x41_2).f2)))) := ⟨by repeat (first | (with_reducible first | exact HB.out | apply below_alloc | apply pw_below_drewN | apply below_drew1 | refine below_set ?_ GE118.out | refine below_set ?_ GE128.out) | exact HB.out)⟩
                 (try clear HO_8)
                 (try clear BK118)
                 (try clear BK128)
                 (try clear HB)
                 generalize (((w51.setCell ⟨gb128, 0, none⟩ (.int .i64 ((rd_T30 l1 x41_2).f0))).setCell ⟨gb128, 1, none⟩ (.int .i64 ((rd_T30 l1 x41_2).f1))).setCell ⟨gb128, 2, none⟩ (.int .i64 ((rd_T30 l1 x41_2).f2))) = w54 at n0_ n1_ n2_ n3_ ⊢
                 have HO_8 := n0_
                 have BK118 := n1_
                 have BK128 := n2_
                 have HB := n3_
                 clear n0_ n1_ n2_ n3_
                 have n0_ := Aside0.mk (Kd.S_drew HO_8.out)
                 have n1_ := Aside0.mk (blk_drew BK118.out)
                 have n2_ := Aside0.mk (blk_drew BK128.out)
                 have n3_ := Aside0.mk (below_drew1 HB.out)
                 clear HO_8
                 clear BK118
                 clear BK128
                 clear HB
                 have HO_8 := n0_
                 have BK118 := n1_
                 have BK128 := n2_
                 have HB := n3_
                 clear n0_ n1_ n2_ n3_
                 have p129 : 0 ≤ ((ji27) : Int) := of_decide_eq_true (by first | (with_reducible assumption) | assumption)
                 have q129 : (ji27) < (x8_2.length : Int) := of_decide_eq_true (by first | (with_reducible assumption) | assumption)
                 obtain ⟨ad129, A129_0, c129_0, e129, hx129_0, hl129_0, hi129_0⟩ := at_L12 (Kd.S_reads' HO_8.out).2.2 (ji27) p129 q129
                 cases e129
                 obtain ⟨ce129, hce129, hMe129, hcc129⟩ := Kd.S_get HO_8.out [] (ji27) p129 (by first | exact q129 | exact of_decide_eq_true (by first | (with_reducible assumption) | assumption) | (have e_ := (Kd.S_reads' HO_8.out).1; omega))
                 obtain ⟨ve129_0, rfl, ge129_0⟩ := hMe129
                 have hv129_0 := hcc129 0 _ rfl
                 rw [Nat.add_zero, show ((Kd.slice 3 (Kd.int .i64))).sz = 1 from rfl, Nat.mul_one] at hv129_0
                 replace hv129_0 := Option.some.inj (hv129_0.symm.trans hx129_0)
                 rw [hv129_0] at ge129_0
                 have HL129_0 := Aside0.mk (show Kd.R (Kd.int .i64) 3 _ _ _ _ (rd_L12 x8_2 (ji27)) from ge129_0)
                 clear hv129_0 ge129_0
                 have HX129_0 := Aside0.mk hx129_0
                 clear hcc129 hce129
                 have HR129_0 := Aside0.mk hi129_0
                 have HC129_0 := Aside0.mk hl129_0
                 clear hi129_0 hl129_0
                 replace p129 := eq_true p129
                 replace q129 := eq_true q129
                 have p130 : 0 ≤ ((ji27) : Int) := of_decide_eq_true (by first | (with_reducible assumption) | assumption)
                 have q130 : (ji27) < ((rd_L12 x8_2 (ji27)).length : Int) := of_decide_eq_true (by first | (with_reducible assumption) | assumption)
                 obtain ⟨ad130, e130, hx130_0⟩ := Kd.at_int (by repeat (first | (with_reducible exact HR129_0.out) | (with_reducible refine Kd.C_alloc ?_ _) | (with_reducible refine Kd.C_drewN ?_ _) | (with_reducible refine Kd.C_drew ?_) | exact HR129_0.out)) (ji27) p130 q130
                 cases e130
                 replace p130 := eq_true p130
                 replace q130 := eq_true q130
                 have p31 : 0 ≤ ((ji27) : Int) := of_decide_eq_true (by first | (with_reducible assumption) | assumption)
                 have q31 : ((ji27) : Int) < (((rd_L12 x8_2 (ji27)).length : Int) : Int) := of_decide_eq_true (by first | (with_reducible assumption) | assumption)
                 obtain ⟨go31, co31, eo31, gb31, gl31, cl31, HG31⟩ := Kd.R_form HL129_0.out (by omega)
                 (first | cases eo31 | (injection eo31 with ea_ en_ ec_; (first | subst ea_ | (injection ea_ with ea_; subst ea_)); subst ec_; clear en_))
                 have GB31 := Aside0.mk gb31
                 have GG31 := Aside0.mk HG31
                 clear gb31 gl31 HG31
                 (first | simp only [add_plain] at hx130_0 | skip)
                 obtain ⟨hx31_0, hf31_0⟩ := Kd.R_celln 0 HL129_0.out ((ji27) : Int) p31 q31
                 replace p31 := eq_true p31
                 replace q31 := eq_true q31
                 have hq56 : ((ji27) : Int) < (x8_2.length : Int) := (by have h_ : ((ji27) : Int) < ((x8_2.length : Int) : Int) := of_decide_eq_true (by first | (with_reducible assumption) | assumption); first | exact h_ | (have e_ := (Kd.S_reads' HO_8.out).1; omega) | simpa only [List.length_set, List.length_set] using h_)
                 obtain ⟨oki56, ce56, hcl56, hM56, hcc56, hok56, hbk56⟩ := Kd.S_borrow HO_8.out [] ((ji27) : Int) (of_decide_eq_true (by first | (with_reducible assumption) | assumption)) (by first | exact hq56 | (have h_ := hq56; simpa only [List.length_set, List.length_set] using h_))
                 obtain ⟨ve56_0, rfl, ge56_0⟩ := hM56
                 have hv56 := hcc56 0 _ rfl
                 rw [Nat.add_zero, show ((Kd.slice 3 (Kd.int .i64))).sz = 1 from rfl, Nat.mul_one] at hv56
                 replace hv56 := Option.some.inj (hv56.symm.trans HX129_0.out)
                 subst hv56
                 clear hcc56 hcl56
                 replace ge56_0 := (show Kd.R (Kd.int .i64) 3 _ _ _ _ (rd_L12 x8_2 (ji27)) from ge56_0)
                 have HP56 := Kd.R_putg ge56_0 ((ji27) : Int) (wrap64 ((rd (rd_L12 x8_2 (ji27)) (ji27)) + 1))
                 rw [← Ny131.out] at HP56
                 have HS56 := hbk56 HP56.2 (fun k_ e_ => by injection e_ with e_; subst e_; exact ge56_0.1 _ rfl) (x' := y131) (Kd.M_row HP56.1)
                 rw [← Ny133.out] at HS56
                 have HQ56 := Aside0.mk HS56
                 clear HP56 HS56 hbk56 hok56
                 refine start_ (n := 14) (S := fun w' => w'.cell? ⟨gb128, 0, none⟩ = some (.int .i64 ((rd_T30 l1 x41_2).f0)) ∧ w'.cell? ⟨gb128, 1, none⟩ = some (.int .i64 ((rd_T30 l1 x41_2).f1)) ∧ w'.cell? ⟨gb128, 2, none⟩ = some (.int .i64 ((rd_T30 l1 x41_2).f2)) ∧ w'.cell? (ad129.add ((ji27)).toNat) = some (.slice (some ⟨go31, 0, none⟩) (rd_L12 x8_2 (ji27)).length c129_0) ∧ w'.cell? ⟨go31, ((ji27)).toNat, none⟩ = some (.int .i64 (rd (rd_L12 x8_2 (ji27)) (ji27)))) (ds := [13]) #[false, false, false, false, false, false, false, false, false, false, false, false, false, false] (by kernel_rfl) rfl rfl ⟨(blk_cell BK128.out 0).trans rfl, (blk_cell BK128.out 1).trans rfl, (blk_cell BK128.out 2).trans rfl, hx129_0, hx130_0⟩ (fun hHeld => ?_); refine with_tabW branch_Count.tab14 branch_Count.bits14 (fun HT_ HW_ => ?_)
                 generalize w54.drew = w55 at HO_8 BK118 BK128 HB GG31 HL129_0 HQ56 HR129_0 HX129_0 hf31_0 hx129_0 hx130_0 hx31_0 hHeld ⊢
                 refine pure_ (i := 0) (N := some 48) (v := ?_) (a' := ?_) #[true, false, false, false, false, false, false, false, false, false, false, false, false, false] rfl rfl (any_of HT_.out (by kernel_rfl)) (fun _ _ _ h => h) (Or.inl ⟨by rfl, ?_⟩) ?_ ?_
                 rotate_left
                 ·intro w'
                  go_simp
                  with_reducible rfl
                 rotate_left
                 ·simp only [Act.put, List.setIfInBounds_toArray, List.set_cons_zero, List.set_cons_succ, i64_w, i32_w]
                  rfl
                 refine pure_ (i := 1) (N := some 49) (v := ?_) (a' := ?_) #[true, true, false, false, false, false, false, false, false, false, false, false, false, false] rfl rfl (any_of HT_.out (by kernel_rfl)) (fun _ _ _ h => h) (Or.inl ⟨by rfl, ?_⟩) ?_ ?_
                 rotate_left
                 ·intro w'
                  go_simp
                  with_reducible rfl
                 rotate_left
                 ·simp only [Act.put, List.setIfInBounds_toArray, List.set_cons_zero, List.set_cons_succ, i64_w, i32_w]
                  rfl
                 refine pure_ (i := 6) (N := some 54) (v := ?_) (a' := ?_) #[true, true, false, false, false, false, true, false, false, false, false, false, false, false] rfl rfl (any_of HT_.out (by kernel_rfl)) (fun _ _ _ h => h) (Or.inl ⟨by rfl, ?_⟩) ?_ ?_
                 rotate_left
                 ·intro w'
                  go_simp
                  with_reducible rfl
                 rotate_left
                 ·simp only [Act.put, List.setIfInBounds_toArray, List.set_cons_zero, List.set_cons_succ, i64_w, i32_w]
                  rfl
                 refine take_ (i := 2) (N := some 50) (v := ?_) (a' := ?_) #[true, true, true, false, false, false, true, false, false, false, false, false, false, false] rfl rfl (take_ofW HT_.out HW_.out (by kernel_rfl)) (fun _ _ _ h => h) (Or.inl ⟨by rfl, ?_⟩) hHeld ?_ ?_
                 rotate_left
                 ·rintro w' ⟨s0, s1, s2, s3, s4⟩
                  go_simp
                  with_reducible rfl
                 rotate_left
                 ·simp only [Act.put, List.setIfInBounds_toArray, List.set_cons_zero, List.set_cons_succ, i64_w, i32_w]
                  rfl
                 refine pure_ (i := 3) (N := some 51) (v := ?_) (a' := ?_) #[true, true, true, true, false, false, true, false, false, false, false, false, false, false] rfl rfl (any_of HT_.out (by kernel_rfl)) (fun _ _ _ h => h) (Or.inl ⟨by rfl, ?_⟩) ?_ ?_
                 rotate_left
                 ·intro w'
                  go_simp
                  with_reducible rfl
                 rotate_left
                 ·simp only [Act.put, List.setIfInBounds_toArray, List.set_cons_zero, List.set_cons_succ, i64_w, i32_w]
                  rfl
                 refine pure_ (i := 4) (N := some 52) (v := ?_) (a' := ?_) #[true, true, true, true, true, false, true, false, false, false, false, false, false, false] rfl rfl (any_of HT_.out (by kernel_rfl)) (fun _ _ _ h => h) (Or.inl ⟨by rfl, ?_⟩) ?_ ?_
                 rotate_left
                 ·intro w'
                  go_simp
                  with_reducible rfl
                 rotate_left
                 ·simp only [Act.put, List.setIfInBounds_toArray, List.set_cons_zero, List.set_cons_succ, i64_w, i32_w]
                  rfl
                 refine take_ (i := 5) (N := some 53) (v := ?_) (a' := ?_) #[true, true, true, true, true, true, true, false, false, false, false, false, false, false] rfl rfl (take_ofW HT_.out HW_.out (by kernel_rfl)) (fun _ _ _ h => h) (Or.inl ⟨by rfl, ?_⟩) hHeld ?_ ?_
                 rotate_left
                 ·rintro w' ⟨s0, s1, s2, s3, s4⟩
                  go_simp
                  with_reducible rfl
                 rotate_left
                 ·simp only [Act.put, List.setIfInBounds_toArray, List.set_cons_zero, List.set_cons_succ, i64_w, i32_w]
                  rfl
                 refine take_ (i := 7) (N := some 55) (v := ?_) (a' := ?_) #[true, true, true, true, true, true, true, true, false, false, false, false, false, false] rfl rfl (take_ofW HT_.out HW_.out (by kernel_rfl)) (fun _ _ _ h => h) (Or.inl ⟨by rfl, ?_⟩) hHeld ?_ ?_
                 rotate_left
                 ·rintro w' ⟨s0, s1, s2, s3, s4⟩
                  go_simp
                  with_reducible rfl
                 rotate_left
                 ·simp only [Act.put, List.setIfInBounds_toArray, List.set_cons_zero, List.set_cons_succ, i64_w, i32_w]
                  rfl
                 refine pure_ (i := 8) (N := some 56) (v := ?_) (a' := ?_) #[true, true, true, true, true, true, true, true, true, false, false, false, false, false] rfl rfl (any_of HT_.out (by kernel_rfl)) (fun _ _ _ h => h) (Or.inl ⟨by rfl, ?_⟩) ?_ ?_
                 rotate_left
                 ·intro w'
                  go_simp
                  with_reducible rfl
                 rotate_left
                 ·simp only [Act.put, List.setIfInBounds_toArray, List.set_cons_zero, List.set_cons_succ, i64_w, i32_w]
                  rfl
                 refine pure_ (i := 9) (N := some 57) (v := ?_) (a' := ?_) #[true, true, true, true, true, true, true, true, true, true, false, false, false, false] rfl rfl (any_of HT_.out (by kernel_rfl)) (fun _ _ _ h => h) (Or.inl ⟨by rfl, ?_⟩) ?_ ?_
                 rotate_left
                 ·intro w'
                  go_simp
                  with_reducible rfl
                 rotate_left
                 ·simp only [Act.put, List.setIfInBounds_toArray, List.set_cons_zero, List.set_cons_succ, i64_w, i32_w]
                  rfl
                 refine take_ (i := 10) (N := some 58) (v := ?_) (a' := ?_) #[true, true, true, true, true, true, true, true, true, true, true, false, false, false] rfl rfl (take_ofW HT_.out HW_.out (by kernel_rfl)) (fun _ _ _ h => h) (Or.inl ⟨by rfl, ?_⟩) hHeld ?_ ?_
                 rotate_left
                 ·rintro w' ⟨s0, s1, s2, s3, s4⟩
                  go_simp
                  with_reducible rfl
                 rotate_left
                 ·simp only [Act.put, List.setIfInBounds_toArray, List.set_cons_zero, List.set_cons_succ, i64_w, i32_w]
                  rfl
                 refine pure_ (i := 11) (N := some 59) (v := ?_) (a' := ?_) #[true, true, true, true, true, true, true, true, true, true, true, true, false, false] rfl rfl (any_of HT_.out (by kernel_rfl)) (fun _ _ _ h => h) (Or.inl ⟨by rfl, ?_⟩) ?_ ?_
                 rotate_left
                 ·intro w'
                  go_simp
                  with_reducible rfl
                 rotate_left
                 ·simp only [Act.put, List.setIfInBounds_toArray, List.set_cons_zero, List.set_cons_succ, i64_w, i32_w]
                  rfl
                 refine pure_ (i := 12) (N := some 60) (v := ?_) (a' := ?_) #[true, true, true, true, true, true, true, true, true, true, true, true, true, false] rfl rfl (any_of HT_.out (by kernel_rfl)) (fun _ _ _ h => h) (Or.inl ⟨by rfl, ?_⟩) ?_ ?_
                 rotate_left
                 ·intro w'
                  go_simp
                  with_reducible rfl
                 rotate_left
                 ·simp only [Act.put, List.setIfInBounds_toArray, List.set_cons_zero, List.set_cons_succ, i64_w, i32_w]
                  rfl
                 refine last_ (i := 13) (N := none) #[true, true, true, true, true, true, true, true, true, true, true, true, true, true] rfl rfl (one_of HT_.out (by kernel_rfl)) (by decide) (fun K hK => ?_)
                 refine skip_ (w1 := ?_) (by rfl) rfl ?_ ?_
                 rotate_left
                 ·go_simp
                  rfl
                 refine hK.out _ _ ?_
                 clear hK K
                 refine done_ (done_of HT_.out (by kernel_rfl)) ?_
                 have n0_ : Aside0 (Kd.S (Kd.slice 3 (Kd.int .i64)) 28 (w55.setCell ⟨go31, ((ji27) : Int).toNat, none⟩ (.int .i64 (wrap64 ((rd (rd_L12 x8_2 (ji27)) (ji27)) + 1)))) w.heap.size (fun _ => True) (.slice (some ad129) x8_2.length co11) y133) := ⟨by (with_reducible repeat (first | apply Kd.S_alloc | apply Kd.S_drewN | apply Kd.S_drew)); exact HQ56.out⟩
                 have n1_ : Aside0 ((w55.setCell ⟨go31, ((ji27) : Int).toNat, none⟩ (.int .i64 (wrap64 ((rd (rd_L12 x8_2 (ji27)) (ji27)) + 1)))).heap[gb118]? = some (.cells #[.int .i64 a0, .slice (some ad127) l1.length c1, .map mr118] 70 (0, 0))) := ⟨by (with_reducible repeat (first | refine blk_drewN ?_ _ | refine blk_drew ?_ | refine blk_alloc ?_ _)); refine blk_far ?_ (by have h_ := Kd.R_ne HL129_0.out BK118.out (by decide); intro e_; exact h_ (by rw [e_]; rfl)) _; (with_reducible repeat (first | refine blk_drewN ?_ _ | refine blk_drew ?_ | refine blk_alloc ?_ _)); exact BK118.out⟩
                 have n2_ : Aside0 ((w55.setCell ⟨go31, ((ji27) : Int).toNat, none⟩ (.int .i64 (wrap64 ((rd (rd_L12 x8_2 (ji27)) (ji27)) + 1)))).heap[gb128]? = some (.cells #[.int .i64 ((rd_T30 l1 x41_2).f0), .int .i64 ((rd_T30 l1 x41_2).f1), .int .i64 ((rd_T30 l1 x41_2).f2)] 30 (0, 0))) := ⟨by (with_reducible repeat (first | refine blk_drewN ?_ _ | refine blk_drew ?_ | refine blk_alloc ?_ _)); refine blk_far ?_ (by have h_ := Kd.R_ne HL129_0.out BK128.out (by decide); intro e_; exact h_ (by rw [e_]; rfl)) _; (with_reducible repeat (first | refine blk_drewN ?_ _ | refine blk_drew ?_ | refine blk_alloc ?_ _)); exact BK128.out⟩
                 have n3_ : Aside0 (Below w.heap.size w (w55.setCell ⟨go31, ((ji27) : Int).toNat, none⟩ (.int .i64 (wrap64 ((rd (rd_L12 x8_2 (ji27)) (ji27)) + 1))))) := ⟨by repeat (first | (with_reducible first | exact HB.out | apply below_alloc | apply pw_below_drewN | apply below_drew1 | refine below_set ?_ GB31.out | refine below_set ?_ GE118.out | refine below_set ?_ GE128.out) | exact HB.out)⟩
                 (try clear HO_8)
                 (try clear BK118)
                 (try clear BK128)
                 (try clear HB)
                 generalize (w55.setCell ⟨go31, ((ji27) : Int).toNat, none⟩ (.int .i64 (wrap64 ((rd (rd_L12 x8_2 (ji27)) (ji27)) + 1)))) = w58 at n0_ n1_ n2_ n3_ ⊢
                 have HO_8 := n0_
                 have BK118 := n1_
                 have BK128 := n2_
                 have HB := n3_
                 clear n0_ n1_ n2_ n3_
                 have hcz59_0 : w58.cell? ⟨gb128, 0, none⟩ = some (.int .i64 ((rd_T30 l1 x41_2).f0)) := (blk_cell BK128.out 0).trans rfl
                 have hcz59_1 : w58.cell? ⟨gb128, 1, none⟩ = some (.int .i64 ((rd_T30 l1 x41_2).f1)) := (blk_cell BK128.out 1).trans rfl
                 have hcz59_2 : w58.cell? ⟨gb128, 2, none⟩ = some (.int .i64 ((rd_T30 l1 x41_2).f2)) := (blk_cell BK128.out 2).trans rfl
                 have hfz59_0 := blk_frozen BK128.out 0
                 have hfz59_1 := blk_frozen BK128.out 1
                 have hfz59_2 := blk_frozen BK128.out 2
                 try go_wp2
                 (try simp only [← hl8_2])
                 go_roundg k2
                 case measure => have := HK1.out; have := HK2.out; omega
                 case rel => exact ⟨(y133), (wrap64 (x41_2 + 1)), (by first | rfl | (simp; done) | (simp [*]; done)), H', ⟨by have := HK1.out; have := HK2.out; omega⟩, ⟨by (try simp only [hl8_1]); (try simp only [hl8_2]); (with_reducible repeat (first | apply Kd.S_alloc | apply Kd.S_drewN | apply Kd.S_drew)); exact HO_8.out⟩, ⟨by (try simp only [hl8_1]); (try simp only [hl8_2]); (with_reducible repeat (first | refine blk_drewN ?_ _ | refine blk_drew ?_ | refine blk_alloc ?_ _)); exact BK118.out⟩, ⟨by repeat (first | (with_reducible first | exact HB.out | apply below_alloc | apply pw_below_drewN | apply below_drew1 | refine below_set ?_ GE118.out | refine below_set ?_ GE128.out) | exact HB.out)⟩⟩
               ·rw [if_neg c30] at H
                exact absurd H (by simp)
              ·rw [if_neg c29] at H
               exact absurd H (by simp)
             ·rw [if_neg c28] at H
              exact absurd H (by simp)
            ·rw [if_neg c26] at H
             have c26b0 : decide (0 < ((rd_T30 l1 x41_2).f1)) = false := decide_eq_false c26
             clear c26
             have H' := Aside0.mk H
             clear H
             have p127 : 0 ≤ (x41_2 : Int) := of_decide_eq_true (by first | (with_reducible assumption) | assumption)
             have q127 : x41_2 < (l1.length : Int) := of_decide_eq_true (by first | (with_reducible assumption) | assumption)
             obtain ⟨ad127, e127, hx127_0, hx127_1, hx127_2⟩ := at_T30 HR1.out x41_2 p127 q127
             cases e127
             replace hx127_0 := (HB.out.cell (World.block_lt_of_cell? w _ hx127_0)).trans hx127_0
             replace hx127_1 := (HB.out.cell (World.block_lt_of_cell? w _ hx127_1)).trans hx127_1
             replace hx127_2 := (HB.out.cell (World.block_lt_of_cell? w _ hx127_2)).trans hx127_2
             replace p127 := eq_true p127
             replace q127 := eq_true q127
             go_wp2_with (first | ((with_reducible refine gate_dst (N := 11) rfl ?_); refine box_event ?hg (N := 11) ?hd (cs := #[.int .i64 0, .int .i64 0, .int .i64 0]) (t := 30) ?hr ?_; (case hd => rfl); (case hg => rfl); (case hr => first | (go_simp; done) | (go_simp; rfl)); intro gb128 hg w60 hbox hb; have n0_ := Aside0.mk (Kd.S_below (by (with_reducible repeat (first | apply Kd.S_alloc | apply Kd.S_drewN | apply Kd.S_drew)); exact HO_8.out) hb); have n1_ := Aside0.mk (blk_below (g := gb118) (o := .cells #[.int .i64 a0, .slice (some ad127) l1.length c1, .map mr118] 70 (0, 0)) (by (with_reducible repeat (first | refine blk_drewN ?_ _ | refine blk_drew ?_ | refine blk_alloc ?_ _)); exact BK118.out) hb); have n2_ := Aside0.mk (below_step (by repeat (first | (with_reducible first | exact HB.out | apply below_alloc | apply pw_below_drewN | apply below_drew1 | refine below_set ?_ GE118.out) | exact HB.out)) hb); have n3_ := Aside0.mk (hbox); have n4_ := Aside0.mk ((by rw [hg]; exact (below_size (by repeat (first | (with_reducible first | exact HB.out | apply below_alloc | apply pw_below_drewN | apply below_drew1 | refine below_set ?_ GE118.out) | exact HB.out))) : w.heap.size ≤ gb128)); have n5_ := Aside0.mk ((by rw [hg]; exact (below_size (by repeat (first | (with_reducible first | exact HB.out | apply below_alloc | apply pw_below_drewN | apply below_drew1 | refine below_set ?_ GE118.out) | exact HB.out))) : w.heap.size ≤ gb128)); have n6_ := Aside0.mk ((by rw [hg]; exact Nat.ne_of_lt (blk_lt (g := gb118) (o := .cells #[.int .i64 a0, .slice (some ad127) l1.length c1, .map mr118] 70 (0, 0)) (by (with_reducible repeat (first | refine blk_drewN ?_ _ | refine blk_drew ?_ | refine blk_alloc ?_ _)); exact BK118.out)) : gb118 ≠ gb128)); have n7_ := Aside0.mk ((by rw [hg]; exact Nat.ne_of_gt (blk_lt (g := gb118) (o := .cells #[.int .i64 a0, .slice (some ad127) l1.length c1, .map mr118] 70 (0, 0)) (by (with_reducible repeat (first | refine blk_drewN ?_ _ | refine blk_drew ?_ | refine blk_alloc ?_ _)); exact BK118.out)) : gb128 ≠ gb118)); clear HO_8; clear BK118; clear HB; have HO_8 := n0_; have BK118 := n1_; have HB := n2_; have BK128 := n3_; have GW128 := n4_; have GE128 := n5_; have NB118_128 := n6_; have NB128_118 := n7_; clear n0_ n1_ n2_ n3_ n4_ n5_ n6_ n7_; clear hb hbox hg; have hnb61 := NB128_118.out; have hnc61 := NB118_128.out; have hcz62_0 : w60.cell? ⟨gb128, 0, none⟩ = some (.int .i64 0) := (blk_cell BK128.out 0).trans rfl; have hcz62_1 : w60.cell? ⟨gb128, 1, none⟩ = some (.int .i64 0) := (blk_cell BK128.out 1).trans rfl; have hcz62_2 : w60.cell? ⟨gb128, 2, none⟩ = some (.int .i64 0) := (blk_cell BK128.out 2).trans rfl; have hfz62_0 := blk_frozen BK128.out 0; have hfz62_1 := blk_frozen BK128.out 1; have hfz62_2 := blk_frozen BK128.out 2))
             (try simp only [← hl8_2])
             go_roundg k2
             case measure => have := HK1.out; have := HK2.out; omega
             case rel => exact ⟨(x8_2), (wrap64 (x41_2 + 1)), (by first | rfl | (simp; done) | (simp [*]; done)), H', ⟨by have := HK1.out; have := HK2.out; omega⟩, ⟨by (try simp only [hl8_1]); (try simp only [hl8_2]); (with_reducible repeat (first | apply Kd.S_alloc | apply Kd.S_drewN | apply Kd.S_drew)); exact Kd.S_mono (Kd.S_far (p := ⟨gb128, 2, none⟩) (Kd.S_far (p := ⟨gb128, 1, none⟩) (Kd.S_far (p := ⟨gb128, 0, none⟩) (Kd.S_types HO_8.out BK128.out (by decide)) (fun _ hk => hk.2) (.int .i64 ((rd_T30 l1 x41_2).f0))) (fun _ hk => hk.2) (.int .i64 ((rd_T30 l1 x41_2).f1))) (fun _ hk => hk.2) (.int .i64 ((rd_T30 l1 x41_2).f2))) (fun _ hk => trivial)⟩, ⟨by (try simp only [hl8_1]); (try simp only [hl8_2]); (with_reducible repeat (first | refine blk_drewN ?_ _ | refine blk_drew ?_ | refine blk_alloc ?_ _)); refine blk_far ?_ NB118_128.out _; (with_reducible repeat (first | refine blk_drewN ?_ _ | refine blk_drew ?_ | refine blk_alloc ?_ _)); refine blk_far ?_ NB118_128.out _; (with_reducible repeat (first | refine blk_drewN ?_ _ | refine blk_drew ?_ | refine blk_alloc ?_ _)); refine blk_far ?_ NB118_128.out _; (with_reducible repeat (first | refine blk_drewN ?_ _ | refine blk_drew ?_ | refine blk_alloc ?_ _)); exact BK118.out⟩, ⟨by repeat (first | (with_reducible first | exact HB.out | apply below_alloc | apply pw_below_drewN | apply below_drew1 | refine below_set ?_ GE118.out | refine below_set ?_ GE128.out) | exact HB.out)⟩⟩
           ·rw [if_neg c25] at H
            exact absurd H (by simp)
          ·rw [if_neg c24] at H
           exact absurd H (by simp)
         ·rw [if_neg c23] at H
          have c23b0 : decide (x41_2 < (l1.length : Int)) = false := decide_eq_false c23
          (try (have c23b0l := c23b0; simp only [hl8_1] at c23b0l))
          (try (have c23b0l := c23b0; simp only [hl8_2] at c23b0l))
          clear c23
          replace H := Option.bind_eq_some_iff.mp H
          obtain ⟨t126, A630, H⟩ := H
          replace H : (some (t126, 0)) = some (r1, r2) := H
          have A63 := Aside0.mk A630
          clear A630
          simp only [Option.some.injEq, Prod.mk.injEq] at H
          obtain ⟨rfl, rfl⟩ := H
          go_wp2_with (first | ((with_reducible refine gate_callee (f := 45) rfl ?_); refine goesL_ (some 79) rfl rfl Try.func45 (by kernel_rfl) rfl #[.slice Ao11 x8_2.length co11] rfl (by (try simp only [List.map_toArray, List.map_cons, List.map_nil]); first | done | rfl | (simp only [List.length_drop, List.length_take]; rfl)) ?_; (with_reducible refine (branch_determinant.calls k2 _ _ x8_2 t126 _ ?side1 ?side2 A63.out).mono ?_); (case side1 => repeat (first | exact (Kd.S_reads' HO_8.out).2.2 | (with_reducible refine Kd.C_alloc ?_ _) | (with_reducible refine Kd.C_drewN ?_ _) | (with_reducible refine Kd.C_drew ?_))); (case side2 => exact (Kd.S_reads' HO_8.out).2.1); rintro e w64 ⟨rfl, hb⟩; refine ⟨_, rfl, ?_⟩; have n0_ := Aside0.mk (Kd.S_below (by (with_reducible repeat (first | apply Kd.S_alloc | apply Kd.S_drewN | apply Kd.S_drew)); exact HO_8.out) hb); have n1_ := Aside0.mk (blk_below (g := gb118) (o := .cells #[.int .i64 a0, .slice A1 l1.length c1, .map mr118] 70 (0, 0)) (by (with_reducible repeat (first | refine blk_drewN ?_ _ | refine blk_drew ?_ | refine blk_alloc ?_ _)); exact BK118.out) hb); have n2_ := Aside0.mk (below_step (by repeat (first | (with_reducible first | exact HB.out | apply below_alloc | apply pw_below_drewN | apply below_drew1 | refine below_set ?_ GE118.out) | exact HB.out)) hb); clear HO_8; clear BK118; clear HB; have HO_8 := n0_; have BK118 := n1_; have HB := n2_; clear n0_ n1_ n2_; (try clear hb); (try clear hb2); (try clear hk); (try clear hi)))
          go_ret2
          exact ⟨by first | rfl | (simp [errW_none, errW_some] <;> rfl) | (simp only [← hji5]; first | rfl | (simp [errW_none, errW_some] <;> rfl)) | (simp [*, errW_none, errW_some] <;> rfl), by repeat (first | (with_reducible first | exact HB.out | apply below_alloc | apply pw_below_drewN | apply below_drew1 | refine below_set ?_ GE118.out) | exact HB.out)⟩
   ·rw [if_neg c7] at H
    exact absurd H (by simp)
  ·rw [if_neg c6] at H
   exact absurd H (by simp)
 ·rw [if_neg c4] at H
  have c4b0 : (t117 == 0) = false := beq_eq_false_iff_ne.mpr c4
  have c4b1 : (t117 != 0) = true := bne_iff_ne.mpr c4
  simp only [Option.some.injEq, Prod.mk.injEq] at H
  obtain ⟨rfl, rfl⟩ := H
  go_enter Try.func18, Try.ntmps18
  go_wp2_with (first | (go_at_call 44; (with_reducible refine (branch_read.calls_err a0 A1 c1 l1 t117 _ ?side1 ?side2 A3.out (by first | (with_reducible assumption) | assumption)).mono ?_); (case side1 => repeat (first | exact HR1.out | (with_reducible refine Kd.C_alloc ?_ _) | (with_reducible refine Kd.C_drewN ?_ _) | (with_reducible refine Kd.C_drew ?_))); (case side2 => exact HC1.out); rintro e w65 ⟨rfl, hb⟩; have n0_ := Aside0.mk (below_step (by repeat (first | (with_reducible first | exact HB.out | apply below_alloc | apply pw_below_drewN | apply below_drew1) | exact HB.out)) hb); clear HB; have HB := n0_; clear n0_; (try clear hb)))
  go_ret2
  exact ⟨by first | rfl | (simp [errW_none, errW_some] <;> rfl) | (simp [*, errW_none, errW_some] <;> rfl), by repeat (first | (with_reducible first | exact HB.out | apply below_alloc | apply pw_below_drewN | apply below_drew1) | exact HB.out)⟩
end Go.Proofs.Ytpmadffgdfholaa.B
namespace Go.Proofs.Ytpmadffgdfholaa.B
open Go.RowKit Go.MapKept Go.Proofs.YtpmadffgdfholaaW.PrintWords Go.Proofs.YtpmadffgdfholaaW.PrintLast Go.Proofs.YtpmadffgdfholaaW.PrintMore
set_option linter.unusedVariables false
set_option linter.unusedSimpArgs false
attribute [local go_sem ↓] Go.wp_at_zero Go.wp_at_succ
def branch_Branching.f (k : Nat) (a0 : Int) (l1 : List S30) : Option (List Int × Int × Int) :=
  (branch_read.f a0 l1).bind fun t => if t = 0 then (branch_town_costs.f k a0 l1).bind fun p => branch_town_first.f k a0 l1 p else some ([], 0, t)
theorem branch_Branching.mono : ∀ a0 a1 k, LeO (branch_Branching.f k a0 a1) (branch_Branching.f (k + 1) a0 a1) := by
  intro a0 a1 k
  unfold branch_Branching.f
  refine LeO.bind (LeO.refl _) fun t => LeO.ite ?_ (LeO.refl _)
  exact LeO.bind (branch_town_costs.mono _ _ k) fun p => branch_town_first.mono _ _ _ k
set_option maxHeartbeats 8000000 in
set_option maxRecDepth 100000 in
theorem branch_Branching.calls (k : Nat) (a0 : Int) (A1 : Option Addr) (c1 : Nat) (l1 : List S30) (r1 : List Int) (r2 r3 : Int) (w : World) (hr1 : Kd.C k30 w A1 l1.length l1) (hc1 : l1.length ≤ c1) (h : branch_Branching.f k a0 l1 = some (r1, r2, r3)) :
  Calls Try.prog 24 #[.int .i64 a0, .slice A1 l1.length c1] w fun e w' => ∃ v0_ : Value, e = .returned (.tuple #[v0_, .int .i64 r2, .int .i64 r3]) ∧ Kd.R (Kd.int .i64) 3 w' w.heap.size (fun _ => True) v0_ r1 ∧ Below w.heap.size w w' := by
 have HR1 := Aside0.mk hr1
 have HC1 := Aside0.mk hc1
 clear hr1 hc1
 have HB := Aside0.mk (Below.refl w.heap.size w)
 unfold branch_Branching.f at h
 obtain ⟨t, ht, h⟩ := Option.bind_eq_some_iff.1 h
 have HT0 := Aside0.mk ht
 clear ht
 by_cases c3 : t = 0
 case neg =>
  rw [if_neg c3] at h
  have c3b : (t == 0) = false := beq_eq_false_iff_ne.mpr c3
  have c3c : (t != 0) = true := bne_iff_ne.mpr c3
  simp only [Option.some.injEq, Prod.mk.injEq] at h
  obtain ⟨rfl, rfl, rfl⟩ := h
  clear c3
  go_enter Try.func24, Try.ntmps24
  go_wp2_with (first | (go_at_call 44; (refine (branch_read.calls_err a0 A1 c1 l1 t _ HR1.out HC1.out HT0.out (by assumption)).mono ?_); rintro e w1 ⟨rfl, hb⟩; clear HB; have HB := Aside0.mk hb; clear hb))
  go_ret3
  exact ⟨_, by first | rfl | (simp; done), Kd.R_nil _ _ _ _ _, HB.out⟩
 rw [if_pos c3] at h
 have c3b : (t == 0) = true := beq_iff_eq.mpr c3
 have c3c : (t != 0) = false := bne_eq_false_iff_eq.mpr c3
 clear c3
 obtain ⟨p, hp, h⟩ := Option.bind_eq_some_iff.1 h
 have HPR := Aside0.mk hp
 clear hp
 have HF := Aside0.mk h
 clear h
 go_enter Try.func24, Try.ntmps24
 go_wp2_with (first | (go_at_call 44; (refine (branch_read.calls_map a0 A1 c1 l1 t _ HR1.out HC1.out HT0.out (by assumption)).mono ?_); rintro e w1 ⟨gt, mm, rfl, hg, hbox, hgm, hb⟩; have GT := Aside0.mk hg; have HT := Aside0.mk hbox; have HG := Aside0.mk hgm; clear HB; have HB := Aside0.mk hb; clear hg hbox hgm hb) | (go_at_call 47; (refine (branch_town_costs.calls k gt a0 A1 c1 l1 (some mm) p _ HT.out (Kd.C_below HR1.out HB.out) HC1.out HPR.out).mono ?_); rintro e w2 ⟨vl, rfl, ho, hb⟩; obtain ⟨Al, cl, hvl⟩ := Kd.R_slice ho; subst hvl; have HO := Aside0.mk (Kd.R_lower ho (below_size HB.out)); have n0_ := Aside0.mk (blk_below HT.out hb); have n1_ := Aside0.mk (below_step HB.out hb); have n2_ := Aside0.mk (HG.out.below hb); clear HT HB HG; have HT := n0_; have HB := n1_; have HG := n2_; clear n0_ n1_ n2_ ho hb) | (go_at_call 51; (refine (branch_town_first.calls k gt a0 A1 c1 l1 mm w.heap.size Al cl p r1 r2 r3 _ HT.out (Kd.C_below HR1.out HB.out) HC1.out (Kd.R_reads' HO.out).2.2 (Kd.R_reads' HO.out).2.1 HG.out HF.out).mono ?_); rintro e w3 ⟨vf, rfl, ho, hb⟩; have HV := Aside0.mk (Kd.R_lower ho (below_size HB.out)); have n0_ := Aside0.mk (below_step HB.out hb); clear HB; have HB := n0_; clear n0_ ho hb))
 go_ret3
 exact ⟨_, by first | rfl | (simp; done), by (with_reducible repeat (first | apply Kd.R_alloc | apply Kd.R_drewN | apply Kd.R_drew)); exact HV.out, by repeat (first | (with_reducible first | exact HB.out | apply below_alloc | apply pw_below_drewN | apply below_drew1) | exact HB.out)⟩
end Go.Proofs.Ytpmadffgdfholaa.B
namespace Go.Proofs.Ytpmadffgdfholaa.B
open Go.RowKit Go.Proofs.YtpmadffgdfholaaW.PrintWords Go.Proofs.YtpmadffgdfholaaW.PrintLast Go.Proofs.YtpmadffgdfholaaW.PrintMore
attribute [local go_sem] max2_int min2_int max_two min_two max_three min_three max_four min_four   -- for this text's walks alone
set_option linter.unusedVariables false
set_option linter.unusedSimpArgs false
def trishawlaw03_alive.f (k : Nat)  : Option (Bool) := (trishawlaw03_three.f).bind fun t101 => ((branch_Branching.f k 3 t101).bind fun bt104 => ((trishawlaw03_three.f).bind fun t109 => ((branch_Proves.f k 3 t109 (([(⟨4, 1⟩ : S41), (⟨2, 2⟩ : S41)] : List (S41)))).bind fun bt115 => ((trishawlaw03_three.f).bind fun t118 => ((branch_Count.f k 3 t118).bind fun bt121 => ((trishawlaw03_three.f).bind fun t123 => ((branch_Narrow.f k 3 t123).bind fun bt126 => (if bt104.2.2 = 0 then ((trishawlaw03_same.f k bt104.1 (([1, 2] : List Int))).bind fun t132 => (if t132 = true then (if bt104.2.1 = 3 then (if bt115.2.2 = 0 then (if bt115.2.1 = true then (if bt115.1 = 3 then (if bt121.2 = 0 then (if bt121.1 = 2 then (if bt126.2.2 = 0 then (if bt126.1 = 1 then (some (bt126.2.1 == 4)) else (some false)) else (some false)) else (some false)) else (some false)) else (some false)) else (some false)) else (some false)) else (some false)) else (some false))) else (some false)))))))))
theorem trishawlaw03_alive.mono : ∀ k, LeO (trishawlaw03_alive.f k ) (trishawlaw03_alive.f (k + 1) ) := by
  intro  k
  unfold trishawlaw03_alive.f
  repeat' first
      | (with_reducible exact branch_Branching.mono _ _ _)
      | (with_reducible exact branch_Count.mono _ _ _)
      | (with_reducible exact branch_Narrow.mono _ _ _)
      | (with_reducible exact branch_Proves.mono _ _ _ _)
      | (with_reducible exact trishawlaw03_same.mono _ _ _)
      | (with_reducible exact LeO.refl _)
      | (with_reducible exact LeO.none _)
      | (with_reducible refine LeO.ite ?_ ?_)
      | (with_reducible refine LeO.bind ?_ (fun _ => ?_))
      | exact branch_Branching.mono _ _ _
      | exact branch_Count.mono _ _ _
      | exact branch_Narrow.mono _ _ _
      | exact branch_Proves.mono _ _ _ _
      | exact trishawlaw03_same.mono _ _ _
      | exact LeO.none _
      | refine LeO.ite ?_ ?_
      | refine LeO.bind ?_ (fun _ => ?_)
theorem alive_true : trishawlaw03_alive.f 60 = some true := by kernel_rfl
theorem alive_from (k : Nat) (h : 60 ≤ k) : trishawlaw03_alive.f k = some true := by
  obtain ⟨d, rfl⟩ : ∃ d, k = 60 + d := ⟨k - 60, by omega⟩
  induction d with
  | zero => exact alive_true
  | succ d ih => exact trishawlaw03_alive.mono (60 + d) true (ih (by omega))
theorem alive_up (k : Nat) (r : Bool) (h : trishawlaw03_alive.f k = some r) (d : Nat) : trishawlaw03_alive.f (k + d) = some r := by
  induction d with
  | zero => exact h
  | succ d ih => exact trishawlaw03_alive.mono (k + d) r ih
theorem alive_only (k : Nat) (r : Bool) (h : trishawlaw03_alive.f k = some r) : r = true := by
  have h1 := alive_up k r h 60
  rw [alive_from (k + 60) (by omega)] at h1
  exact (Option.some.inj h1).symm
set_option maxHeartbeats 8000000 in
set_option maxRecDepth 100000 in
theorem trishawlaw03_alive.calls (k : Nat)  (r : Bool) (w : World) (h : trishawlaw03_alive.f k  = some r) :
  Calls Try.prog 17 #[] w fun e w' => e = .returned (.bool r) ∧ Below w.heap.size w w' := by
 have hu41 := Try.underlying41
 have HB := Aside0.mk (Below.refl w.heap.size w)
 have H : ((trishawlaw03_three.f).bind fun t101 => ((branch_Branching.f k 3 t101).bind fun bt104 => ((trishawlaw03_three.f).bind fun t109 => ((branch_Proves.f k 3 t109 (([(⟨4, 1⟩ : S41), (⟨2, 2⟩ : S41)] : List (S41)))).bind fun bt115 => ((trishawlaw03_three.f).bind fun t118 => ((branch_Count.f k 3 t118).bind fun bt121 => ((trishawlaw03_three.f).bind fun t123 => ((branch_Narrow.f k 3 t123).bind fun bt126 => (if bt104.2.2 = 0 then ((trishawlaw03_same.f k bt104.1 (([1, 2] : List Int))).bind fun t132 => (if t132 = true then (if bt104.2.1 = 3 then (if bt115.2.2 = 0 then (if bt115.2.1 = true then (if bt115.1 = 3 then (if bt121.2 = 0 then (if bt121.1 = 2 then (if bt126.2.2 = 0 then (if bt126.1 = 1 then (some (bt126.2.1 == 4)) else (some false)) else (some false)) else (some false)) else (some false)) else (some false)) else (some false)) else (some false)) else (some false)) else (some false))) else (some false)))))))))) = some r := h
 have HRT := Aside0.mk (alive_only k r h)
 clear h
 replace H := Option.bind_eq_some_iff.mp H
 obtain ⟨t101, A10, H⟩ := H
 replace H : ((branch_Branching.f k 3 t101).bind fun bt104 => ((trishawlaw03_three.f).bind fun t109 => ((branch_Proves.f k 3 t109 (([(⟨4, 1⟩ : S41), (⟨2, 2⟩ : S41)] : List (S41)))).bind fun bt115 => ((trishawlaw03_three.f).bind fun t118 => ((branch_Count.f k 3 t118).bind fun bt121 => ((trishawlaw03_three.f).bind fun t123 => ((branch_Narrow.f k 3 t123).bind fun bt126 => (if bt104.2.2 = 0 then ((trishawlaw03_same.f k bt104.1 (([1, 2] : List Int))).bind fun t132 => (if t132 = true then (if bt104.2.1 = 3 then (if bt115.2.2 = 0 then (if bt115.2.1 = true then (if bt115.1 = 3 then (if bt121.2 = 0 then (if bt121.1 = 2 then (if bt126.2.2 = 0 then (if bt126.1 = 1 then (some (bt126.2.1 == 4)) else (some false)) else (some false)) else (some false)) else (some false)) else (some false)) else (some false)) else (some false)) else (some false)) else (some false))) else (some false))))))))) = some r := H
 have A1 := Aside0.mk A10
 clear A10
 replace H := Option.bind_eq_some_iff.mp H
 obtain ⟨⟨t104, t105, t106⟩, A20, H⟩ := H
 replace H : ((trishawlaw03_three.f).bind fun t109 => ((branch_Proves.f k 3 t109 (([(⟨4, 1⟩ : S41), (⟨2, 2⟩ : S41)] : List (S41)))).bind fun bt115 => ((trishawlaw03_three.f).bind fun t118 => ((branch_Count.f k 3 t118).bind fun bt121 => ((trishawlaw03_three.f).bind fun t123 => ((branch_Narrow.f k 3 t123).bind fun bt126 => (if t106 = 0 then ((trishawlaw03_same.f k t104 (([1, 2] : List Int))).bind fun t132 => (if t132 = true then (if t105 = 3 then (if bt115.2.2 = 0 then (if bt115.2.1 = true then (if bt115.1 = 3 then (if bt121.2 = 0 then (if bt121.1 = 2 then (if bt126.2.2 = 0 then (if bt126.1 = 1 then (some (bt126.2.1 == 4)) else (some false)) else (some false)) else (some false)) else (some false)) else (some false)) else (some false)) else (some false)) else (some false)) else (some false))) else (some false)))))))) = some r := H
 have A2 := Aside0.mk A20
 clear A20
 replace H := Option.bind_eq_some_iff.mp H
 obtain ⟨t109, A30, H⟩ := H
 replace H : ((branch_Proves.f k 3 t109 (([(⟨4, 1⟩ : S41), (⟨2, 2⟩ : S41)] : List (S41)))).bind fun bt115 => ((trishawlaw03_three.f).bind fun t118 => ((branch_Count.f k 3 t118).bind fun bt121 => ((trishawlaw03_three.f).bind fun t123 => ((branch_Narrow.f k 3 t123).bind fun bt126 => (if t106 = 0 then ((trishawlaw03_same.f k t104 (([1, 2] : List Int))).bind fun t132 => (if t132 = true then (if t105 = 3 then (if bt115.2.2 = 0 then (if bt115.2.1 = true then (if bt115.1 = 3 then (if bt121.2 = 0 then (if bt121.1 = 2 then (if bt126.2.2 = 0 then (if bt126.1 = 1 then (some (bt126.2.1 == 4)) else (some false)) else (some false)) else (some false)) else (some false)) else (some false)) else (some false)) else (some false)) else (some false)) else (some false))) else (some false))))))) = some r := H
 have A3 := Aside0.mk A30
 clear A30
 obtain ⟨y112, hy112⟩ : ∃ y_ : List (S41), y_ = (([(⟨4, 1⟩ : S41), (⟨2, 2⟩ : S41)] : List (S41))) := ⟨_, rfl⟩
 replace H : ((branch_Proves.f k 3 t109 y112).bind fun bt115 => ((trishawlaw03_three.f).bind fun t118 => ((branch_Count.f k 3 t118).bind fun bt121 => ((trishawlaw03_three.f).bind fun t123 => ((branch_Narrow.f k 3 t123).bind fun bt126 => (if t106 = 0 then ((trishawlaw03_same.f k t104 (([1, 2] : List Int))).bind fun t132 => (if t132 = true then (if t105 = 3 then (if bt115.2.2 = 0 then (if bt115.2.1 = true then (if bt115.1 = 3 then (if bt121.2 = 0 then (if bt121.1 = 2 then (if bt126.2.2 = 0 then (if bt126.1 = 1 then (some (bt126.2.1 == 4)) else (some false)) else (some false)) else (some false)) else (some false)) else (some false)) else (some false)) else (some false)) else (some false)) else (some false))) else (some false))))))) = some r := by first | (rw [hy112]; with_reducible exact H) | (have H2_ := (Option.bind_some _ _).symm.trans H; rw [hy112]; with_reducible exact H2_) | (have H2_ := (Option.bind_some _ _).symm.trans H; with_reducible exact H2_) | with_reducible exact H | (rw [hy112]; exact H) | exact H
 have Ny112 := Aside0.mk hy112
 clear hy112
 replace H := Option.bind_eq_some_iff.mp H
 obtain ⟨⟨t115, t116, t117⟩, A40, H⟩ := H
 replace H : ((trishawlaw03_three.f).bind fun t118 => ((branch_Count.f k 3 t118).bind fun bt121 => ((trishawlaw03_three.f).bind fun t123 => ((branch_Narrow.f k 3 t123).bind fun bt126 => (if t106 = 0 then ((trishawlaw03_same.f k t104 (([1, 2] : List Int))).bind fun t132 => (if t132 = true then (if t105 = 3 then (if t117 = 0 then (if t116 = true then (if t115 = 3 then (if bt121.2 = 0 then (if bt121.1 = 2 then (if bt126.2.2 = 0 then (if bt126.1 = 1 then (some (bt126.2.1 == 4)) else (some false)) else (some false)) else (some false)) else (some false)) else (some false)) else (some false)) else (some false)) else (some false)) else (some false))) else (some false)))))) = some r := H
 have A4 := Aside0.mk A40
 clear A40
 replace H := Option.bind_eq_some_iff.mp H
 obtain ⟨t118, A50, H⟩ := H
 replace H : ((branch_Count.f k 3 t118).bind fun bt121 => ((trishawlaw03_three.f).bind fun t123 => ((branch_Narrow.f k 3 t123).bind fun bt126 => (if t106 = 0 then ((trishawlaw03_same.f k t104 (([1, 2] : List Int))).bind fun t132 => (if t132 = true then (if t105 = 3 then (if t117 = 0 then (if t116 = true then (if t115 = 3 then (if bt121.2 = 0 then (if bt121.1 = 2 then (if bt126.2.2 = 0 then (if bt126.1 = 1 then (some (bt126.2.1 == 4)) else (some false)) else (some false)) else (some false)) else (some false)) else (some false)) else (some false)) else (some false)) else (some false)) else (some false))) else (some false))))) = some r := H
 have A5 := Aside0.mk A50
 clear A50
 replace H := Option.bind_eq_some_iff.mp H
 obtain ⟨⟨t121, t122⟩, A60, H⟩ := H
 replace H : ((trishawlaw03_three.f).bind fun t123 => ((branch_Narrow.f k 3 t123).bind fun bt126 => (if t106 = 0 then ((trishawlaw03_same.f k t104 (([1, 2] : List Int))).bind fun t132 => (if t132 = true then (if t105 = 3 then (if t117 = 0 then (if t116 = true then (if t115 = 3 then (if t122 = 0 then (if t121 = 2 then (if bt126.2.2 = 0 then (if bt126.1 = 1 then (some (bt126.2.1 == 4)) else (some false)) else (some false)) else (some false)) else (some false)) else (some false)) else (some false)) else (some false)) else (some false)) else (some false))) else (some false)))) = some r := H
 have A6 := Aside0.mk A60
 clear A60
 replace H := Option.bind_eq_some_iff.mp H
 obtain ⟨t123, A70, H⟩ := H
 replace H : ((branch_Narrow.f k 3 t123).bind fun bt126 => (if t106 = 0 then ((trishawlaw03_same.f k t104 (([1, 2] : List Int))).bind fun t132 => (if t132 = true then (if t105 = 3 then (if t117 = 0 then (if t116 = true then (if t115 = 3 then (if t122 = 0 then (if t121 = 2 then (if bt126.2.2 = 0 then (if bt126.1 = 1 then (some (bt126.2.1 == 4)) else (some false)) else (some false)) else (some false)) else (some false)) else (some false)) else (some false)) else (some false)) else (some false)) else (some false))) else (some false))) = some r := H
 have A7 := Aside0.mk A70
 clear A70
 replace H := Option.bind_eq_some_iff.mp H
 obtain ⟨⟨t126, t127, t128⟩, A80, H⟩ := H
 replace H : (if t106 = 0 then ((trishawlaw03_same.f k t104 (([1, 2] : List Int))).bind fun t132 => (if t132 = true then (if t105 = 3 then (if t117 = 0 then (if t116 = true then (if t115 = 3 then (if t122 = 0 then (if t121 = 2 then (if t128 = 0 then (if t126 = 1 then (some (t127 == 4)) else (some false)) else (some false)) else (some false)) else (some false)) else (some false)) else (some false)) else (some false)) else (some false)) else (some false))) else (some false)) = some r := H
 have A8 := Aside0.mk A80
 clear A80
 by_cases c9 : t106 = 0
 ·rw [if_pos c9] at H
  have c9b0 : (t106 == 0) = true := beq_iff_eq.mpr c9
  have c9b1 : (t106 != 0) = false := bne_eq_false_iff_eq.mpr c9
  clear c9
  obtain ⟨y129, hy129⟩ : ∃ y_ : List Int, y_ = (([1, 2] : List Int)) := ⟨_, rfl⟩
  replace H : ((trishawlaw03_same.f k t104 y129).bind fun t132 => (if t132 = true then (if t105 = 3 then (if t117 = 0 then (if t116 = true then (if t115 = 3 then (if t122 = 0 then (if t121 = 2 then (if t128 = 0 then (if t126 = 1 then (some (t127 == 4)) else (some false)) else (some false)) else (some false)) else (some false)) else (some false)) else (some false)) else (some false)) else (some false)) else (some false))) = some r := by first | (rw [hy129]; with_reducible exact H) | (have H2_ := (Option.bind_some _ _).symm.trans H; rw [hy129]; with_reducible exact H2_) | (have H2_ := (Option.bind_some _ _).symm.trans H; with_reducible exact H2_) | with_reducible exact H | (rw [hy129]; exact H) | exact H
  have Ny129 := Aside0.mk hy129
  clear hy129
  replace H := Option.bind_eq_some_iff.mp H
  obtain ⟨t132, A100, H⟩ := H
  replace H : (if t132 = true then (if t105 = 3 then (if t117 = 0 then (if t116 = true then (if t115 = 3 then (if t122 = 0 then (if t121 = 2 then (if t128 = 0 then (if t126 = 1 then (some (t127 == 4)) else (some false)) else (some false)) else (some false)) else (some false)) else (some false)) else (some false)) else (some false)) else (some false)) else (some false)) = some r := H
  have A10 := Aside0.mk A100
  clear A100
  by_cases c11 : t132 = true
  ·subst c11
   have H1 : (if t105 = 3 then (if t117 = 0 then (if t116 = true then (if t115 = 3 then (if t122 = 0 then (if t121 = 2 then (if t128 = 0 then (if t126 = 1 then (some (t127 == 4)) else (some false)) else (some false)) else (some false)) else (some false)) else (some false)) else (some false)) else (some false)) else (some false)) = some r := by rw [if_pos rfl] at H; exact H
   clear H
   have H := H1
   clear H1
   by_cases c12 : t105 = 3
   ·rw [if_pos c12] at H
    have c12b0 : (t105 == 3) = true := beq_iff_eq.mpr c12
    have c12b1 : (t105 != 3) = false := bne_eq_false_iff_eq.mpr c12
    clear c12
    by_cases c13 : t117 = 0
    ·rw [if_pos c13] at H
     have c13b0 : (t117 == 0) = true := beq_iff_eq.mpr c13
     have c13b1 : (t117 != 0) = false := bne_eq_false_iff_eq.mpr c13
     clear c13
     by_cases c14 : t116 = true
     ·subst c14
      have H1 : (if t115 = 3 then (if t122 = 0 then (if t121 = 2 then (if t128 = 0 then (if t126 = 1 then (some (t127 == 4)) else (some false)) else (some false)) else (some false)) else (some false)) else (some false)) = some r := by rw [if_pos rfl] at H; exact H
      clear H
      have H := H1
      clear H1
      by_cases c15 : t115 = 3
      ·rw [if_pos c15] at H
       have c15b0 : (t115 == 3) = true := beq_iff_eq.mpr c15
       have c15b1 : (t115 != 3) = false := bne_eq_false_iff_eq.mpr c15
       clear c15
       by_cases c16 : t122 = 0
       ·rw [if_pos c16] at H
        have c16b0 : (t122 == 0) = true := beq_iff_eq.mpr c16
        have c16b1 : (t122 != 0) = false := bne_eq_false_iff_eq.mpr c16
        clear c16
        by_cases c17 : t121 = 2
        ·rw [if_pos c17] at H
         have c17b0 : (t121 == 2) = true := beq_iff_eq.mpr c17
         have c17b1 : (t121 != 2) = false := bne_eq_false_iff_eq.mpr c17
         clear c17
         by_cases c18 : t128 = 0
         ·rw [if_pos c18] at H
          have c18b0 : (t128 == 0) = true := beq_iff_eq.mpr c18
          have c18b1 : (t128 != 0) = false := bne_eq_false_iff_eq.mpr c18
          clear c18
          by_cases c19 : t126 = 1
          ·rw [if_pos c19] at H
           have c19b0 : (t126 == 1) = true := beq_iff_eq.mpr c19
           have c19b1 : (t126 != 1) = false := bne_eq_false_iff_eq.mpr c19
           clear c19
           obtain rfl := Option.some.inj H
           go_enter Try.func17, Try.ntmps17
           go_wp2_with (first | ((with_reducible refine gate_callee (f := 43) rfl ?_); refine goesL_ (some 13) rfl rfl Try.func43 (by kernel_rfl) rfl #[] rfl (by (try simp only [List.map_toArray, List.map_cons, List.map_nil]); first | done | rfl | (simp only [List.length_drop, List.length_take]; rfl)) ?_; (with_reducible refine (trishawlaw03_three.calls  t101 _ A1.out).mono ?_); rintro e w20 ⟨v102, rfl, ho0, hb⟩; refine ⟨_, rfl, ?_⟩; have n0_ := Aside0.mk (Kd.R_lower ho0 (below_size (by repeat (first | (with_reducible first | exact HB.out | apply below_alloc | apply pw_below_drewN | apply below_drew1) | exact HB.out)))); have n1_ := Aside0.mk (below_step (by repeat (first | (with_reducible first | exact HB.out | apply below_alloc | apply pw_below_drewN | apply below_drew1) | exact HB.out)) hb); clear HB; have HO103 := n0_; have HB := n1_; clear n0_ n1_; (try clear hb); (try clear hb2); (try clear hk); (try clear hi); (try clear ho0); obtain ⟨Ao21, co21, eo21⟩ := Kd.R_slice HO103.out; subst eo21) | ((with_reducible refine gate_callee (f := 24) rfl ?_); refine goesL_ (some 14) rfl rfl Try.func24 (by kernel_rfl) rfl #[.int .i64 3, .slice Ao21 t101.length co21] rfl (by (try simp only [List.map_toArray, List.map_cons, List.map_nil]); first | done | rfl | (simp only [List.length_drop, List.length_take]; rfl)) ?_; (with_reducible refine (branch_Branching.calls k 3 _ _ t101 t104 t105 t106 _ ?side1 ?side2 A2.out).mono ?_); (case side1 => repeat (first | exact (Kd.R_reads' HO103.out).2.2 | (with_reducible refine Kd.C_alloc ?_ _) | (with_reducible refine Kd.C_drewN ?_ _) | (with_reducible refine Kd.C_drew ?_))); (case side2 => exact (Kd.R_reads' HO103.out).2.1); rintro e w22 ⟨v107, rfl, ho0, hb⟩; refine ⟨_, rfl, ?_⟩; have n0_ := Aside0.mk (Kd.R_below (by (with_reducible repeat (first | apply Kd.R_alloc | apply Kd.R_drewN | apply Kd.R_drew)); exact HO103.out) hb); have n1_ := Aside0.mk (Kd.R_lower ho0 (below_size (by repeat (first | (with_reducible first | exact HB.out | apply below_alloc | apply pw_below_drewN | apply below_drew1) | exact HB.out)))); have n2_ := Aside0.mk (below_step (by repeat (first | (with_reducible first | exact HB.out | apply below_alloc | apply pw_below_drewN | apply below_drew1) | exact HB.out)) hb); clear HO103; clear HB; have HO103 := n0_; have HO108 := n1_; have HB := n2_; clear n0_ n1_ n2_; (try clear hb); (try clear hb2); (try clear hk); (try clear hi); (try clear ho0)) | ((with_reducible refine gate_callee (f := 43) rfl ?_); refine goesL_ (some 19) rfl rfl Try.func43 (by kernel_rfl) rfl #[] rfl (by (try simp only [List.map_toArray, List.map_cons, List.map_nil]); first | done | rfl | (simp only [List.length_drop, List.length_take]; rfl)) ?_; (with_reducible refine (trishawlaw03_three.calls  t109 _ A3.out).mono ?_); rintro e w23 ⟨v110, rfl, ho0, hb⟩; refine ⟨_, rfl, ?_⟩; have n0_ := Aside0.mk (Kd.R_elder' (by (with_reducible repeat (first | apply Kd.R_alloc | apply Kd.R_drewN | apply Kd.R_drew)); exact HO103.out) (Kd.R_base ho0) hb); have n1_ := Aside0.mk (Kd.R_below (by (with_reducible repeat (first | apply Kd.R_alloc | apply Kd.R_drewN | apply Kd.R_drew)); exact HO108.out) hb); have n2_ := Aside0.mk (Kd.R_lower (Kd.R_new' ho0 (Kd.R_lt (by (with_reducible repeat (first | apply Kd.R_alloc | apply Kd.R_drewN | apply Kd.R_drew)); exact HO103.out))) (below_size (by repeat (first | (with_reducible first | exact HB.out | apply below_alloc | apply pw_below_drewN | apply below_drew1) | exact HB.out)))); have n3_ := Aside0.mk (below_step (by repeat (first | (with_reducible first | exact HB.out | apply below_alloc | apply pw_below_drewN | apply below_drew1) | exact HB.out)) hb); clear HO103; clear HO108; clear HB; have HO103 := n0_; have HO108 := n1_; have HO111 := n2_; have HB := n3_; clear n0_ n1_ n2_ n3_; (try clear hb); (try clear hb2); (try clear hk); (try clear hi); (try clear ho0)) | ((with_reducible refine gate_dst (N := 22) rfl ?_); (try (refine gate_guard (by rfl) ?_; dsimp only)); refine Kd.R_lit k41 _ 41 ?hg (N := 22) ?hd (xs := ([(⟨4, 1⟩ : S41), (⟨2, 2⟩ : S41)] : List (S41))) (inner := [.int .i64 4, .int .i64 1, .int .i64 2, .int .i64 2]) (ok := fun _ => True) (okp := fun _ => True) ?hr ?hp (fun _ hk => hk) trivial (Below.refl _ _) (Nat.le_refl _) (by simp) ?_; (case hd => rfl); (case hg => rfl); (case hr => first | (go_simp; done) | (go_simp; rfl)); (case hp => exact (Reps.c2 (show Kd.M k41 _ _ _ (⟨4, 1⟩ : S41) [.int .i64 4, .int .i64 1] from (k41_mkM _ _ _ (⟨4, 1⟩ : S41) )) (Reps.c2 (show Kd.M k41 _ _ _ (⟨2, 2⟩ : S41) [.int .i64 2, .int .i64 2] from (k41_mkM _ _ _ (⟨2, 2⟩ : S41) )) (Reps.none _ _)))); intro v113 w24 ho25 hb hg_ hnew_; clear hg_ hnew_; (first | rw [← Ny112.out] at ho25 | (simp only [Int.reduceToNat] at ho25; rw [← Ny112.out] at ho25)); have n0_ := Aside0.mk (Kd.R_below (by (with_reducible repeat (first | apply Kd.R_alloc | apply Kd.R_drewN | apply Kd.R_drew)); exact HO103.out) hb); have n1_ := Aside0.mk (Kd.R_below (by (with_reducible repeat (first | apply Kd.R_alloc | apply Kd.R_drewN | apply Kd.R_drew)); exact HO108.out) hb); have n2_ := Aside0.mk (Kd.R_below (by (with_reducible repeat (first | apply Kd.R_alloc | apply Kd.R_drewN | apply Kd.R_drew)); exact HO111.out) hb); have n3_ := Aside0.mk (Kd.R_lower ho25 (below_size (by repeat (first | (with_reducible first | exact HB.out | apply below_alloc | apply pw_below_drewN | apply below_drew1) | exact HB.out)))); have n4_ := Aside0.mk (below_step (by repeat (first | (with_reducible first | exact HB.out | apply below_alloc | apply pw_below_drewN | apply below_drew1) | exact HB.out)) hb); clear HO103; clear HO108; clear HO111; clear HB; have HO103 := n0_; have HO108 := n1_; have HO111 := n2_; have HO114 := n3_; have HB := n4_; clear n0_ n1_ n2_ n3_ n4_; clear hb ho25; obtain ⟨Ao26, co26, eo26⟩ := Kd.R_slice HO111.out; subst eo26; obtain ⟨Ao27, co27, eo27⟩ := Kd.R_slice HO114.out; subst eo27) | ((with_reducible refine gate_callee (f := 37) rfl ?_); refine goesL_ (some 23) rfl rfl Try.func37 (by kernel_rfl) rfl #[.int .i64 3, .slice Ao26 t109.length co26, .slice Ao27 y112.length co27] rfl (by (try simp only [List.map_toArray, List.map_cons, List.map_nil]); first | done | rfl | (simp only [List.length_drop, List.length_take]; rfl)) ?_; (with_reducible refine (branch_Proves.calls k 3 _ _ t109 _ _ y112 t115 true t117 _ ?side1 ?side2 ?side3 ?side4 A4.out).mono ?_); (case side1 => repeat (first | exact (Kd.R_reads' HO111.out).2.2 | (with_reducible refine Kd.C_alloc ?_ _) | (with_reducible refine Kd.C_drewN ?_ _) | (with_reducible refine Kd.C_drew ?_))); (case side2 => exact (Kd.R_reads' HO111.out).2.1); (case side3 => repeat (first | exact (Kd.R_reads' HO114.out).2.2 | (with_reducible refine Kd.C_alloc ?_ _) | (with_reducible refine Kd.C_drewN ?_ _) | (with_reducible refine Kd.C_drew ?_))); (case side4 => exact (Kd.R_reads' HO114.out).2.1); rintro e w28 ⟨rfl, hb⟩; refine ⟨_, rfl, ?_⟩; have n0_ := Aside0.mk (Kd.R_below (by (with_reducible repeat (first | apply Kd.R_alloc | apply Kd.R_drewN | apply Kd.R_drew)); exact HO103.out) hb); have n1_ := Aside0.mk (Kd.R_below (by (with_reducible repeat (first | apply Kd.R_alloc | apply Kd.R_drewN | apply Kd.R_drew)); exact HO108.out) hb); have n2_ := Aside0.mk (Kd.R_below (by (with_reducible repeat (first | apply Kd.R_alloc | apply Kd.R_drewN | apply Kd.R_drew)); exact HO111.out) hb); have n3_ := Aside0.mk (Kd.R_below (by (with_reducible repeat (first | apply Kd.R_alloc | apply Kd.R_drewN | apply Kd.R_drew)); exact HO114.out) hb); have n4_ := Aside0.mk (below_step (by repeat (first | (with_reducible first | exact HB.out | apply below_alloc | apply pw_below_drewN | apply below_drew1) | exact HB.out)) hb); clear HO103; clear HO108; clear HO111; clear HO114; clear HB; have HO103 := n0_; have HO108 := n1_; have HO111 := n2_; have HO114 := n3_; have HB := n4_; clear n0_ n1_ n2_ n3_ n4_; (try clear hb); (try clear hb2); (try clear hk); (try clear hi)) | ((with_reducible refine gate_callee (f := 43) rfl ?_); refine goesL_ (some 28) rfl rfl Try.func43 (by kernel_rfl) rfl #[] rfl (by (try simp only [List.map_toArray, List.map_cons, List.map_nil]); first | done | rfl | (simp only [List.length_drop, List.length_take]; rfl)) ?_; (with_reducible refine (trishawlaw03_three.calls  t118 _ A5.out).mono ?_); rintro e w29 ⟨v119, rfl, ho0, hb⟩; refine ⟨_, rfl, ?_⟩; have n0_ := Aside0.mk (Kd.R_elder' (by (with_reducible repeat (first | apply Kd.R_alloc | apply Kd.R_drewN | apply Kd.R_drew)); exact HO103.out) (Kd.R_base ho0) hb); have n1_ := Aside0.mk (Kd.R_below (by (with_reducible repeat (first | apply Kd.R_alloc | apply Kd.R_drewN | apply Kd.R_drew)); exact HO108.out) hb); have n2_ := Aside0.mk (Kd.R_elder' (by (with_reducible repeat (first | apply Kd.R_alloc | apply Kd.R_drewN | apply Kd.R_drew)); exact HO111.out) (Kd.R_base ho0) hb); have n3_ := Aside0.mk (Kd.R_below (by (with_reducible repeat (first | apply Kd.R_alloc | apply Kd.R_drewN | apply Kd.R_drew)); exact HO114.out) hb); have n4_ := Aside0.mk (Kd.R_lower (Kd.R_new' (Kd.R_new' ho0 (Kd.R_lt (by (with_reducible repeat (first | apply Kd.R_alloc | apply Kd.R_drewN | apply Kd.R_drew)); exact HO103.out))) (Kd.R_lt (by (with_reducible repeat (first | apply Kd.R_alloc | apply Kd.R_drewN | apply Kd.R_drew)); exact HO111.out))) (below_size (by repeat (first | (with_reducible first | exact HB.out | apply below_alloc | apply pw_below_drewN | apply below_drew1) | exact HB.out)))); have n5_ := Aside0.mk (below_step (by repeat (first | (with_reducible first | exact HB.out | apply below_alloc | apply pw_below_drewN | apply below_drew1) | exact HB.out)) hb); clear HO103; clear HO108; clear HO111; clear HO114; clear HB; have HO103 := n0_; have HO108 := n1_; have HO111 := n2_; have HO114 := n3_; have HO120 := n4_; have HB := n5_; clear n0_ n1_ n2_ n3_ n4_ n5_; (try clear hb); (try clear hb2); (try clear hk); (try clear hi); (try clear ho0); obtain ⟨Ao30, co30, eo30⟩ := Kd.R_slice HO120.out; subst eo30) | ((with_reducible refine gate_callee (f := 18) rfl ?_); refine goesL_ (some 29) rfl rfl Try.func18 (by kernel_rfl) rfl #[.int .i64 3, .slice Ao30 t118.length co30] rfl (by (try simp only [List.map_toArray, List.map_cons, List.map_nil]); first | done | rfl | (simp only [List.length_drop, List.length_take]; rfl)) ?_; (with_reducible refine (branch_Count.calls k 3 _ _ t118 t121 t122 _ ?side1 ?side2 A6.out).mono ?_); (case side1 => repeat (first | exact (Kd.R_reads' HO120.out).2.2 | (with_reducible refine Kd.C_alloc ?_ _) | (with_reducible refine Kd.C_drewN ?_ _) | (with_reducible refine Kd.C_drew ?_))); (case side2 => exact (Kd.R_reads' HO120.out).2.1); rintro e w31 ⟨rfl, hb⟩; refine ⟨_, rfl, ?_⟩; have n0_ := Aside0.mk (Kd.R_below (by (with_reducible repeat (first | apply Kd.R_alloc | apply Kd.R_drewN | apply Kd.R_drew)); exact HO103.out) hb); have n1_ := Aside0.mk (Kd.R_below (by (with_reducible repeat (first | apply Kd.R_alloc | apply Kd.R_drewN | apply Kd.R_drew)); exact HO108.out) hb); have n2_ := Aside0.mk (Kd.R_below (by (with_reducible repeat (first | apply Kd.R_alloc | apply Kd.R_drewN | apply Kd.R_drew)); exact HO111.out) hb); have n3_ := Aside0.mk (Kd.R_below (by (with_reducible repeat (first | apply Kd.R_alloc | apply Kd.R_drewN | apply Kd.R_drew)); exact HO114.out) hb); have n4_ := Aside0.mk (Kd.R_below (by (with_reducible repeat (first | apply Kd.R_alloc | apply Kd.R_drewN | apply Kd.R_drew)); exact HO120.out) hb); have n5_ := Aside0.mk (below_step (by repeat (first | (with_reducible first | exact HB.out | apply below_alloc | apply pw_below_drewN | apply below_drew1) | exact HB.out)) hb); clear HO103; clear HO108; clear HO111; clear HO114; clear HO120; clear HB; have HO103 := n0_; have HO108 := n1_; have HO111 := n2_; have HO114 := n3_; have HO120 := n4_; have HB := n5_; clear n0_ n1_ n2_ n3_ n4_ n5_; (try clear hb); (try clear hb2); (try clear hk); (try clear hi)) | ((with_reducible refine gate_callee (f := 43) rfl ?_); refine goesL_ (some 33) rfl rfl Try.func43 (by kernel_rfl) rfl #[] rfl (by (try simp only [List.map_toArray, List.map_cons, List.map_nil]); first | done | rfl | (simp only [List.length_drop, List.length_take]; rfl)) ?_; (with_reducible refine (trishawlaw03_three.calls  t123 _ A7.out).mono ?_); rintro e w32 ⟨v124, rfl, ho0, hb⟩; refine ⟨_, rfl, ?_⟩; have n0_ := Aside0.mk (Kd.R_elder' (by (with_reducible repeat (first | apply Kd.R_alloc | apply Kd.R_drewN | apply Kd.R_drew)); exact HO103.out) (Kd.R_base ho0) hb); have n1_ := Aside0.mk (Kd.R_below (by (with_reducible repeat (first | apply Kd.R_alloc | apply Kd.R_drewN | apply Kd.R_drew)); exact HO108.out) hb); have n2_ := Aside0.mk (Kd.R_elder' (by (with_reducible repeat (first | apply Kd.R_alloc | apply Kd.R_drewN | apply Kd.R_drew)); exact HO111.out) (Kd.R_base ho0) hb); have n3_ := Aside0.mk (Kd.R_below (by (with_reducible repeat (first | apply Kd.R_alloc | apply Kd.R_drewN | apply Kd.R_drew)); exact HO114.out) hb); have n4_ := Aside0.mk (Kd.R_elder' (by (with_reducible repeat (first | apply Kd.R_alloc | apply Kd.R_drewN | apply Kd.R_drew)); exact HO120.out) (Kd.R_base ho0) hb); have n5_ := Aside0.mk (Kd.R_lower (Kd.R_new' (Kd.R_new' (Kd.R_new' ho0 (Kd.R_lt (by (with_reducible repeat (first | apply Kd.R_alloc | apply Kd.R_drewN | apply Kd.R_drew)); exact HO103.out))) (Kd.R_lt (by (with_reducible repeat (first | apply Kd.R_alloc | apply Kd.R_drewN | apply Kd.R_drew)); exact HO111.out))) (Kd.R_lt (by (with_reducible repeat (first | apply Kd.R_alloc | apply Kd.R_drewN | apply Kd.R_drew)); exact HO120.out))) (below_size (by repeat (first | (with_reducible first | exact HB.out | apply below_alloc | apply pw_below_drewN | apply below_drew1) | exact HB.out)))); have n6_ := Aside0.mk (below_step (by repeat (first | (with_reducible first | exact HB.out | apply below_alloc | apply pw_below_drewN | apply below_drew1) | exact HB.out)) hb); clear HO103; clear HO108; clear HO111; clear HO114; clear HO120; clear HB; have HO103 := n0_; have HO108 := n1_; have HO111 := n2_; have HO114 := n3_; have HO120 := n4_; have HO125 := n5_; have HB := n6_; clear n0_ n1_ n2_ n3_ n4_ n5_ n6_; (try clear hb); (try clear hb2); (try clear hk); (try clear hi); (try clear ho0); obtain ⟨Ao33, co33, eo33⟩ := Kd.R_slice HO125.out; subst eo33) | ((with_reducible refine gate_callee (f := 30) rfl ?_); refine goesL_ (some 34) rfl rfl Try.func30 (by kernel_rfl) rfl #[.int .i64 3, .slice Ao33 t123.length co33] rfl (by (try simp only [List.map_toArray, List.map_cons, List.map_nil]); first | done | rfl | (simp only [List.length_drop, List.length_take]; rfl)) ?_; (with_reducible refine (branch_Narrow.calls k 3 _ _ t123 t126 t127 t128 _ ?side1 ?side2 A8.out).mono ?_); (case side1 => repeat (first | exact (Kd.R_reads' HO125.out).2.2 | (with_reducible refine Kd.C_alloc ?_ _) | (with_reducible refine Kd.C_drewN ?_ _) | (with_reducible refine Kd.C_drew ?_))); (case side2 => exact (Kd.R_reads' HO125.out).2.1); rintro e w34 ⟨rfl, hb⟩; refine ⟨_, rfl, ?_⟩; have n0_ := Aside0.mk (Kd.R_below (by (with_reducible repeat (first | apply Kd.R_alloc | apply Kd.R_drewN | apply Kd.R_drew)); exact HO103.out) hb); have n1_ := Aside0.mk (Kd.R_below (by (with_reducible repeat (first | apply Kd.R_alloc | apply Kd.R_drewN | apply Kd.R_drew)); exact HO108.out) hb); have n2_ := Aside0.mk (Kd.R_below (by (with_reducible repeat (first | apply Kd.R_alloc | apply Kd.R_drewN | apply Kd.R_drew)); exact HO111.out) hb); have n3_ := Aside0.mk (Kd.R_below (by (with_reducible repeat (first | apply Kd.R_alloc | apply Kd.R_drewN | apply Kd.R_drew)); exact HO114.out) hb); have n4_ := Aside0.mk (Kd.R_below (by (with_reducible repeat (first | apply Kd.R_alloc | apply Kd.R_drewN | apply Kd.R_drew)); exact HO120.out) hb); have n5_ := Aside0.mk (Kd.R_below (by (with_reducible repeat (first | apply Kd.R_alloc | apply Kd.R_drewN | apply Kd.R_drew)); exact HO125.out) hb); have n6_ := Aside0.mk (below_step (by repeat (first | (with_reducible first | exact HB.out | apply below_alloc | apply pw_below_drewN | apply below_drew1) | exact HB.out)) hb); clear HO103; clear HO108; clear HO111; clear HO114; clear HO120; clear HO125; clear HB; have HO103 := n0_; have HO108 := n1_; have HO111 := n2_; have HO114 := n3_; have HO120 := n4_; have HO125 := n5_; have HB := n6_; clear n0_ n1_ n2_ n3_ n4_ n5_ n6_; (try clear hb); (try clear hb2); (try clear hk); (try clear hi)) | ((with_reducible refine gate_dst (N := 42) rfl ?_); (try (refine gate_guard (by rfl) ?_; dsimp only)); refine Kd.R_lit (Kd.int .i64) _ 3 ?hg (N := 42) ?hd (xs := ([1, 2] : List Int)) (inner := [.int .i64 1, .int .i64 2]) (ok := fun _ => True) (okp := fun _ => True) ?hr ?hp (fun _ hk => hk) trivial (Below.refl _ _) (Nat.le_refl _) (by simp) ?_; (case hd => rfl); (case hg => rfl); (case hr => first | (go_simp; done) | (go_simp; rfl)); (case hp => exact (Reps.one (show Kd.M (Kd.int .i64) _ _ _ 1 [.int .i64 1] from rfl) (Reps.one (show Kd.M (Kd.int .i64) _ _ _ 2 [.int .i64 2] from rfl) (Reps.none _ _)))); intro v130 w35 ho36 hb hg_ hnew_; clear hg_ hnew_; (first | rw [← Ny129.out] at ho36 | (simp only [Int.reduceToNat] at ho36; rw [← Ny129.out] at ho36)); have n0_ := Aside0.mk (Kd.R_below (by (with_reducible repeat (first | apply Kd.R_alloc | apply Kd.R_drewN | apply Kd.R_drew)); exact HO103.out) hb); have n1_ := Aside0.mk (Kd.R_elder' (by (with_reducible repeat (first | apply Kd.R_alloc | apply Kd.R_drewN | apply Kd.R_drew)); exact HO108.out) (Kd.R_base ho36) hb); have n2_ := Aside0.mk (Kd.R_below (by (with_reducible repeat (first | apply Kd.R_alloc | apply Kd.R_drewN | apply Kd.R_drew)); exact HO111.out) hb); have n3_ := Aside0.mk (Kd.R_below (by (with_reducible repeat (first | apply Kd.R_alloc | apply Kd.R_drewN | apply Kd.R_drew)); exact HO114.out) hb); have n4_ := Aside0.mk (Kd.R_below (by (with_reducible repeat (first | apply Kd.R_alloc | apply Kd.R_drewN | apply Kd.R_drew)); exact HO120.out) hb); have n5_ := Aside0.mk (Kd.R_below (by (with_reducible repeat (first | apply Kd.R_alloc | apply Kd.R_drewN | apply Kd.R_drew)); exact HO125.out) hb); have n6_ := Aside0.mk (Kd.R_lower (Kd.R_new' ho36 (Kd.R_lt (by (with_reducible repeat (first | apply Kd.R_alloc | apply Kd.R_drewN | apply Kd.R_drew)); exact HO108.out))) (below_size (by repeat (first | (with_reducible first | exact HB.out | apply below_alloc | apply pw_below_drewN | apply below_drew1) | exact HB.out)))); have n7_ := Aside0.mk (below_step (by repeat (first | (with_reducible first | exact HB.out | apply below_alloc | apply pw_below_drewN | apply below_drew1) | exact HB.out)) hb); clear HO103; clear HO108; clear HO111; clear HO114; clear HO120; clear HO125; clear HB; have HO103 := n0_; have HO108 := n1_; have HO111 := n2_; have HO114 := n3_; have HO120 := n4_; have HO125 := n5_; have HO131 := n6_; have HB := n7_; clear n0_ n1_ n2_ n3_ n4_ n5_ n6_ n7_; clear hb ho36; obtain ⟨Ao37, co37, eo37⟩ := Kd.R_slice HO108.out; subst eo37; obtain ⟨Ao38, co38, eo38⟩ := Kd.R_slice HO131.out; subst eo38) | (go_at_call 25; (with_reducible refine (trishawlaw03_same.calls k _ _ t104 _ _ y129 true _ ?side1 ?side2 ?side3 ?side4 A10.out).mono ?_); (case side1 => repeat (first | exact (Kd.R_reads' HO108.out).2.2 | (with_reducible refine Kd.C_alloc ?_ _) | (with_reducible refine Kd.C_drewN ?_ _) | (with_reducible refine Kd.C_drew ?_))); (case side2 => exact (Kd.R_reads' HO108.out).2.1); (case side3 => repeat (first | exact (Kd.R_reads' HO131.out).2.2 | (with_reducible refine Kd.C_alloc ?_ _) | (with_reducible refine Kd.C_drewN ?_ _) | (with_reducible refine Kd.C_drew ?_))); (case side4 => exact (Kd.R_reads' HO131.out).2.1); rintro e w' ⟨rfl, ⟨nd, rfl⟩⟩))
           go_ret
           exact ⟨by first | rfl | (simp [errW_none, errW_some] <;> rfl) | (simp [*, errW_none, errW_some] <;> rfl), by repeat (first | (with_reducible first | exact HB.out | apply below_alloc | apply pw_below_drewN | apply below_drew1) | exact HB.out)⟩
          ·rw [if_neg c19] at H
           exact absurd ((Option.some.inj H).trans HRT.out) (by decide)
         ·rw [if_neg c18] at H
          exact absurd ((Option.some.inj H).trans HRT.out) (by decide)
        ·rw [if_neg c17] at H
         exact absurd ((Option.some.inj H).trans HRT.out) (by decide)
       ·rw [if_neg c16] at H
        exact absurd ((Option.some.inj H).trans HRT.out) (by decide)
      ·rw [if_neg c15] at H
       exact absurd ((Option.some.inj H).trans HRT.out) (by decide)
     ·replace c14 := Bool.eq_false_iff.mpr c14
      subst c14
      have H1 : (some false) = some r := by rw [if_neg (show ¬ (false = true) by decide)] at H; exact H
      exact absurd ((Option.some.inj H1).trans HRT.out) (by decide)
    ·rw [if_neg c13] at H
     exact absurd ((Option.some.inj H).trans HRT.out) (by decide)
   ·rw [if_neg c12] at H
    exact absurd ((Option.some.inj H).trans HRT.out) (by decide)
  ·replace c11 := Bool.eq_false_iff.mpr c11
   subst c11
   have H1 : (some false) = some r := by rw [if_neg (show ¬ (false = true) by decide)] at H; exact H
   exact absurd ((Option.some.inj H1).trans HRT.out) (by decide)
 ·rw [if_neg c9] at H
  exact absurd ((Option.some.inj H).trans HRT.out) (by decide)
end Go.Proofs.Ytpmadffgdfholaa.B
