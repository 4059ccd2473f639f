/- Texts behind the row of JamAffine, part 3. -/
import Derived.Below
import Derived.Deep.Draws
import Derived.Deep.AppendLies
import Derived.Maps.AppendAt
import Derived.OwnWalk
import Derived.Laws.BytesArg
import Derived.Laws.MakeOwn
import Derived.Laws.OwnMore
import Derived.Deep.OwnRows
import Derived.Tactics
import Derived.Lib.ConvBytes
import Derived.Laws.Slices
import Derived.WalkKit
import Derived.KernelRfl
import Derived.RowKit3
import Derived.Deep.LoopGhost
import Derived.Deep.QuietTactic
import Derived.BigQuiet
import Derived.WideLaws
import Derived.Deep.DeepCutAuto
import Derived.Deep.CutBlock
import Derived.Deep.RegionHeld3
import Derived.Laws.Rows
import Derived.Lib.AppendStr
import Derived.ArgAppend
import Derived.Laws.IdiomCopy
import Derived.RowKit
import Derived.OrdersHeld
import Derived.Laws.BitsLemmas
import Derived.Laws.StructEq
import Derived.Test.YtjgbdicbdlollaaProg
import Derived.WalkSpells
import Derived.MapKept
import Derived.Maps.RangeWalk
import Derived.Shelf.SlSortCmp.SmallK
import Derived.Ground.SlsfProg
import Derived.Test.YtjgbdicbdlollaaCN1
import Derived.Test.YtjgbdicbdlollaaCN2
namespace Go.Proofs.Ytjgbdicbdlollaa.B
open Go.RowKit Go.Proofs.YtjgbdicbdlollaaW.PrintWords Go.Proofs.YtjgbdicbdlollaaW.PrintLast Go.Proofs.YtjgbdicbdlollaaW.PrintMore
set_option linter.unusedVariables false
set_option linter.unusedSimpArgs false
attribute [local go_sem] run_store_func
/-- The middle blocks, from n1 on and below N0, stay (what a visitor does). -/
structure Mid (n1 N0 : Nat) (W W' : World) : Prop where
  size : W.heap.size ≤ W'.heap.size
  blk : ∀ k, n1 ≤ k → k < N0 → W'.heap[k]? = W.heap[k]?
/-- Nothing but middle blocks has changed (what all does by itself). -/
structure Side (n1 N0 : Nat) (W W' : World) : Prop where
  os : W'.os = W.os
  tape : W'.tape = W.tape
  output : W'.output = W.output
  size : W.heap.size ≤ W'.heap.size
  blk : ∀ k, k < W.heap.size → (k < n1 ∨ N0 ≤ k) → W'.heap[k]? = W.heap[k]?
/-- The routes of driver i, one after the other. -/
def onLoop {σ : Type} (F : List Int → σ → Option (List Int × σ)) (i : Nat) : Nat → Nat → List Int → σ → Option (List Int × σ)
  | 0, _, ch, s => some (ch, s)
  | m + 1, r, ch, s => (F (ch.set i (r : Int)) s).bind fun q => onLoop F i m (r + 1) q.1 q.2
/-- All choices that begin as_ ch does up to i. -/
def onF {σ : Type} (R : List (List Int)) (vis : σ → List Int → Option σ) : Nat → Nat → List Int → σ → Option (List Int × σ)
  | 0, _, ch, s => (vis s ch).bind fun s2 => some (ch, s2)
  | f + 1, i, ch, s => onLoop (fun c t => onF R vis f (i + 1) c t) i (rd_L12 R (i : Int)).length 0 ch s
theorem onLoop_mono {σ : Type} {F G : List Int → σ → Option (List Int × σ)} (h : ∀ c t, LeO (F c t) (G c t)) (i : Nat) : ∀ m r ch s, LeO (onLoop F i m r ch s) (onLoop G i m r ch s)
  | 0, _, _, _ => LeO.refl _
  | m + 1, r, ch, s => LeO.bind (h _ _) fun q => onLoop_mono h i m _ _ _
theorem onF_mono {σ : Type} (R : List (List Int)) {vis vis2 : σ → List Int → Option σ} (h : ∀ s c, LeO (vis s c) (vis2 s c)) : ∀ f i ch s, LeO (onF R vis f i ch s) (onF R vis2 f i ch s)
  | 0, _, _, _ => LeO.bind (h _ _) fun _ => LeO.refl _
  | f + 1, i, ch, s => onLoop_mono (fun c t => onF_mono R h f (i + 1) c t) i _ _ _ _
/-- all's own blocks. -/
structure AEnv (W : World) (n1 N0 b4 b3 b2 b5 gc cp n g : Nat) (v : Value) (ch : List Int) : Prop where
  c4 : W.heap[b4]? = some (.cells #[.slice (some ⟨gc, 0, none⟩) n cp] 24 (0, 0))
  c3 : W.heap[b3]? = some (.cells #[v] 89 (0, 0))
  c2 : W.heap[b2]? = some (.cells #[.pointer (some ⟨g, 0, none⟩)] 82 (0, 0))
  c5 : W.heap[b5]? = some (.cells #[.func (.func 91) #[] #[.pointer (some ⟨b4, 0, none⟩), .pointer (some ⟨b3, 0, none⟩), .pointer (some ⟨b2, 0, none⟩), .pointer (some ⟨b5, 0, none⟩)]] 119 (0, 0))
  row : Kd.R (Kd.int .i64) 3 W n1 (fun k => k = gc) (.slice (some ⟨gc, 0, none⟩) n cp) ch
  m4 : n1 ≤ b4 ∧ b4 < N0
  m3 : n1 ≤ b3 ∧ b3 < N0
  m2 : n1 ≤ b2 ∧ b2 < N0
  m5 : n1 ≤ b5 ∧ b5 < N0
  mc : n1 ≤ gc ∧ gc < N0
  big : N0 ≤ W.heap.size
section
variable {W W' : World} {n1 N0 b4 b3 b2 b5 gc cp n g : Nat} {v : Value} {ch : List Int}
theorem AEnv.mid (h : AEnv W n1 N0 b4 b3 b2 b5 gc cp n g v ch) (hm : Mid n1 N0 W W') : AEnv W' n1 N0 b4 b3 b2 b5 gc cp n g v ch :=
  ⟨(hm.blk _ h.m4.1 h.m4.2).trans h.c4, (hm.blk _ h.m3.1 h.m3.2).trans h.c3, (hm.blk _ h.m2.1 h.m2.2).trans h.c2, (hm.blk _ h.m5.1 h.m5.2).trans h.c5, Kd.R_step h.row (fun k hk _ => by subst hk; exact hm.blk _ h.mc.1 h.mc.2), h.m4, h.m3, h.m2, h.m5, h.mc, Nat.le_trans h.big hm.size⟩
theorem AEnv.set (h : AEnv W n1 N0 b4 b3 b2 b5 gc cp n g v ch) (i : Nat) (r : Int) : AEnv (W.setCell ⟨gc, i, none⟩ (.int .i64 r)) n1 N0 b4 b3 b2 b5 gc cp n g v (ch.set i r) := by
  have hp := Kd.R_putg h.row (i : Int) r
  simp only [Int.toNat_natCast] at hp
  refine ⟨blk_grown h.c4 hp.2 (Kd.R_ne h.row h.c4 (by decide)), blk_grown h.c3 hp.2 (Kd.R_ne h.row h.c3 (by decide)), blk_grown h.c2 hp.2 (Kd.R_ne h.row h.c2 (by decide)), blk_grown h.c5 hp.2 (Kd.R_ne h.row h.c5 (by decide)), hp.1, h.m4, h.m3, h.m2, h.m5, h.mc, Nat.le_trans h.big hp.2.size⟩
theorem AEnv.side (h : AEnv W n1 N0 b4 b3 b2 b5 gc cp n g v ch) (i : Nat) (r : Int) : Side n1 N0 W (W.setCell ⟨gc, i, none⟩ (.int .i64 r)) := by
  have hp := (Kd.R_putg h.row (i : Int) r).2
  simp only [Int.toNat_natCast] at hp
  refine ⟨hp.os, hp.tape, hp.output, hp.size, fun k hk hs => hp.block k hk (fun e => ?_)⟩
  injection e with e
  have := h.mc
  omega
end
section
variable {P : Program} {ops : Array Oper} {Q : Exit → Act → World → Prop}
/-- A call of a function value of one argument, as_ one step. -/
theorem goesV_ {rest : List Oper} {oi : Oper} {a : Act} {w : World} (N : Option Tmp) (hd : oi.dst = N) (hg : oi.guard = none) {f : FuncId} {caps : Array Value} {fn : Func} (hf : P.funcs[f]? = some fn) (hn : (fn.name == "runtime.NumGoroutine") = false) (hb : fn.body.isSome = true) {x y : Operand} {ts : Array TypeId}
    (hop : oi.op = .call { callee := .value x, args := #[y], argTypes := ts }) (hx : a.eval x = .func (.func f) #[] caps) {u : Value} (hy : a.eval y = u)
    (h : Calls P f (#[u] ++ caps) w fun e w' => ∃ v, e = .returned v ∧ wpList P ops Q rest (a.put N v) w') : wpList P ops Q (oi :: rest) a w := by
  refine wpList_plain hg fun K hK => ?_
  have he := enters_ hf hn hb (#[u] ++ caps) w
  have hrun : (execOp a.eval oi).run P w = .ok (.enter f (#[u] ++ caps)) w := by
    unfold execOp
    simp only [hop, resolve, Deferred.ofValue, invoke, hx, hy, List.map_toArray, List.map_cons, List.map_nil]
    simpa using he
  unfold Oper.wp
  rw [hrun, Oper.upon_enter]
  refine h.mono fun e w'' hh => ?_
  obtain ⟨v, rfl, hk⟩ := hh
  subst hd
  exact hK _ _ hk
end
set_option maxHeartbeats 8000000 in
set_option maxRecDepth 100000 in
theorem on_calls {σ : Type} (R T : List (List Int)) (n1 N0 b4 b3 b2 b5 gc cp g : Nat) (fv : FuncId) (caps : Array Value) (fn : Func) (hfn : Try.prog.funcs[fv]? = some fn) (hfn2 : (fn.name == "runtime.NumGoroutine") = false) (hfn3 : fn.body.isSome = true)
  (vis : σ → List Int → Option σ) (Inv : World → σ → Prop) (hgm : ∀ W s, Inv W s → Gm W g R T) (hstab : ∀ W W' s, Inv W s → Side n1 N0 W W' → Inv W' s)
  (hcall : ∀ W s s' A c l, N0 ≤ W.heap.size → Inv W s → Kd.C (Kd.int .i64) W A l.length l → l.length ≤ c → l.length = R.length → vis s l = some s' → Calls Try.prog fv (#[.slice A l.length c] ++ caps) W fun e W' => e = .returned (.tuple #[]) ∧ Inv W' s' ∧ Mid n1 N0 W W')
  (hR : R.length ≤ 5) (hRl : ∀ i, (rd_L12 R i).length ≤ 5) :
  ∀ (f i : Nat) (ch ch' : List Int) (s s' : σ) (W : World), i + f = R.length → ch.length = R.length → AEnv W n1 N0 b4 b3 b2 b5 gc cp R.length g (.func (.func fv) #[] caps) ch → Inv W s → onF R vis f i ch s = some (ch', s') →
   Calls Try.prog 91 #[.int .i64 (i : Int), .pointer (some ⟨b4, 0, none⟩), .pointer (some ⟨b3, 0, none⟩), .pointer (some ⟨b2, 0, none⟩), .pointer (some ⟨b5, 0, none⟩)] W fun e W' => e = .returned (.tuple #[]) ∧ AEnv W' n1 N0 b4 b3 b2 b5 gc cp R.length g (.func (.func fv) #[] caps) ch' ∧ ch'.length = R.length ∧ Inv W' s' := by
 intro f
 induction f with
 | zero =>
  intro i ch ch' s s' W hi hcl hE hI h
  unfold onF at h
  obtain ⟨s2, hs2, h⟩ := Option.bind_eq_some_iff.1 h
  simp only [Option.some.injEq, Prod.mk.injEq] at h
  obtain ⟨rfl, rfl⟩ := h
  obtain rfl : i = R.length := by omega
  have HV := Aside0.mk hs2
  have HE := Aside0.mk hE
  have HI := Aside0.mk hI
  have HCL := Aside0.mk hcl
  have h4 : W.cell? ⟨b4, 0, none⟩ = some (.slice (some ⟨gc, 0, none⟩) R.length cp) := (blk_cell hE.c4 0).trans rfl
  have h3 : W.cell? ⟨b3, 0, none⟩ = some (.func (.func fv) #[] caps) := (blk_cell hE.c3 0).trans rfl
  have c0 : ((R.length : Int) == (R.length : Int)) = true := beq_self_eq_true _
  have c0b : decide ((R.length : Int) = (R.length : Int)) = true := decide_eq_true rfl
  have HC := Aside0.mk hcall
  have HF := Aside0.mk hfn
  clear hs2 hE hI hcl hi hgm hstab hcall hR hRl hfn
  go_enter Try.func91, Try.ntmps91
  go_wp2_with (first | ((with_reducible refine gate_dst (N := 13) rfl ?_); refine goesV_ (some 13) rfl rfl HF.out hfn2 hfn3 rfl rfl (u := .slice (some ⟨gc, 0, none⟩) R.length cp) rfl ?_; rw [← HCL.out]; refine (HC.out W s s2 (some ⟨gc, 0, none⟩) cp ch HE.out.big HI.out (Kd.R_reads' HE.out.row).2.2 (by have := (Kd.R_reads' HE.out.row).2.1; rw [HCL.out]; exact this) HCL.out HV.out).mono ?_; rintro e w2 ⟨rfl, hi2, hm⟩; refine ⟨_, rfl, ?_⟩; rw [HCL.out]; have HI2 := Aside0.mk hi2; have HE2 := Aside0.mk (HE.out.mid hm); clear hi2 hm h4 h3))
  refine bodyPost_ret (results_none rfl _ _ _) rfl ?_
  first | exact ⟨HE2.out, HCL.out, HI2.out⟩ | exact ⟨by first | rfl | (simp; done), HE2.out, HCL.out, HI2.out⟩
 | succ f ih =>
  intro i ch ch' s s' W hi hcl hE hI h
  unfold onF at h
  have HH0 := Aside0.mk h
  have HE := Aside0.mk hE
  have HI := Aside0.mk hI
  have HCL := Aside0.mk hcl
  have HIH := Aside0.mk ih
  have HGM := Aside0.mk hgm
  have HST := Aside0.mk hstab
  have HFI := Aside0.mk hi
  have HR := Aside0.mk hR
  have HRL := Aside0.mk hRl
  obtain ⟨Ar, cr, Ap, cp2, q, g1, g2, g3, g4, g5, g6, g7⟩ := (hgm W s hI).ex
  have hg_0 : W.cell? ⟨g, 0, none⟩ = some (.slice Ar R.length cr) := (blk_cell g1 0).trans rfl
  have hi0 : (0 : Int) ≤ (i : Int) := Int.natCast_nonneg _
  have hi1 : (i : Int) < (R.length : Int) := by omega
  have hi2 : (i < R.length) = True := eq_true (by omega)
  obtain ⟨ad, A0, c0, e, hx, hc0, hC⟩ := at_L12 g3 (i : Int) hi0 hi1
  cases e
  simp only [Int.toNat_natCast] at hx
  clear g1 g2 g3 g4 g5 g6 g7 hc0 hC
  obtain ⟨m, hm⟩ : ∃ m, (rd_L12 R (i : Int)).length = m := ⟨_, rfl⟩
  have HM := Aside0.mk (show m ≤ 5 by rw [← hm]; exact hRl _)
  have HMM := Aside0.mk hm
  rw [hm] at hx
  have h4 : W.cell? ⟨b4, 0, none⟩ = some (.slice (some ⟨gc, 0, none⟩) R.length cp) := (blk_cell hE.c4 0).trans rfl
  have h2 : W.cell? ⟨b2, 0, none⟩ = some (.pointer (some ⟨g, 0, none⟩)) := (blk_cell hE.c2 0).trans rfl
  have e0 : ((i : Int) == (R.length : Int)) = false := beq_eq_false_iff_ne.mpr (by omega)
  have e0b : decide ((i : Int) = (R.length : Int)) = false := decide_eq_false (by omega)
  have e0c : (i == R.length) = false := beq_eq_false_iff_ne.mpr (by omega)
  have e0d : decide (i = R.length) = false := decide_eq_false (by omega)
  replace hi0 := eq_true hi0
  replace hi1 := eq_true hi1
  clear h hE hI hcl ih hgm hstab hi hR hRl hcall hm
  go_enter Try.func91, Try.ntmps91
  go_wp2
  clear hx h4 h2 hg_0
  go_loopg [22] m (fun kq v22 w' => ∃ (r : Nat) (ch1 : List Int) (t : σ), v22 = .int .i64 (r : Int) ∧ Aside0 (r + kq = m) ∧ Aside0 (onLoop (fun c t => onF R vis f (i + 1) c t) i kq r ch1 t = some (ch', s')) ∧ Aside0 (AEnv w' n1 N0 b4 b3 b2 b5 gc cp R.length g (.func (.func fv) #[] caps) ch1) ∧ Aside0 (ch1.length = R.length) ∧ Aside0 (Inv w' t))
  case atStart => exact ⟨0, ch, s, rfl, ⟨by simp⟩, ⟨by have := HH0.out; rw [HMM.out] at this; exact this⟩, HE, HCL, HI⟩
  case round =>
   clear HH0 HE HI HCL
   obtain ⟨r, ch1, t, rfl, HK, HH, HE, HCL, HI⟩ := hrel
   cases gk with
   | zero =>
    have hk := HK.out
    have c4b : decide ((r : Int) < (m : Int)) = false := decide_eq_false (by omega)
    have c4b2 : decide (r < m) = false := decide_eq_false (by omega)
    have hh := HH.out
    simp only [onLoop, Option.some.injEq, Prod.mk.injEq] at hh
    obtain ⟨rfl, rfl⟩ := hh
    clear hk HH
    go_wp2
    go_end0
    try go_wp2
    first | exact ⟨HE.out, HCL.out, HI.out⟩ | exact ⟨by first | rfl | (simp; done), HE.out, HCL.out, HI.out⟩
   | succ k1 =>
    have c4b : decide ((r : Int) < (m : Int)) = true := decide_eq_true (by have := HK.out; omega)
    have c4b2 : decide (r < m) = true := decide_eq_true (by have := HK.out; omega)
    have hh := HH.out
    rw [onLoop] at hh
    obtain ⟨q2, hq2, hh⟩ := Option.bind_eq_some_iff.1 hh
    have HQ2 := Aside0.mk hq2
    have HH2 := Aside0.mk hh
    clear hq2 hh HH
    have h4 : wr.cell? ⟨b4, 0, none⟩ = some (.slice (some ⟨gc, 0, none⟩) R.length cp) := (blk_cell HE.out.c4 0).trans rfl
    obtain ⟨hcc, hcf⟩ := Kd.R_celln 0 HE.out.row (i : Int) (by omega) (by have := HFI.out; omega)
    simp only [Int.toNat_natCast] at hcc hcf
    go_upto_region 6 with (fail)
    (try simp only [Act.put, List.setIfInBounds_toArray, List.set_cons_zero, List.set_cons_succ])
    obtain ⟨wq, hwq⟩ : ∃ wq, wr.setCell ⟨gc, i, none⟩ (.int .i64 (r : Int)) = wq := ⟨_, rfl⟩
    rw [hwq]
    have HE2 := Aside0.mk (show AEnv wq n1 N0 b4 b3 b2 b5 gc cp R.length g (.func (.func fv) #[] caps) (ch1.set i (r : Int)) from hwq ▸ HE.out.set i (r : Int))
    have HI2 := Aside0.mk (show Inv wq t from HST.out _ _ _ HI.out (hwq ▸ HE.out.side i (r : Int)))
    clear HE HI hwq hcc hcf h4
    have h5 : wq.cell? ⟨b5, 0, none⟩ = some (.func (.func 91) #[] #[.pointer (some ⟨b4, 0, none⟩), .pointer (some ⟨b3, 0, none⟩), .pointer (some ⟨b2, 0, none⟩), .pointer (some ⟨b5, 0, none⟩)]) := (blk_cell HE2.out.c5 0).trans rfl
    have hib : (i : Int) + 1 ≤ 5 := by have := HFI.out; have := HR.out; omega
    have hib0 : (0 : Int) ≤ (i : Int) := Int.natCast_nonneg _
    go_wp2_with (first | (go_at_call 91; ((refine (HIH.out (i + 1) (ch1.set i (r : Int)) q2.1 t q2.2 _ (by have := HFI.out; omega) (by rw [List.length_set]; exact HCL.out) HE2.out HI2.out HQ2.out).mono ?_); rintro e w5 ⟨rfl, hE5, hl5, hI5⟩; have HE5 := Aside0.mk hE5; have HI5 := Aside0.mk hI5; have HL5 := Aside0.mk hl5; clear hE5 hI5 hl5 h5)))
    try go_end0
    try go_wp2
    go_roundg k1
    case measure => omega
    case rel => exact ⟨r + 1, q2.1, q2.2, val_succ r (by have := HK.out; have := HM.out; omega), ⟨by have := HK.out; omega⟩, HH2, HE5, HL5, HI5⟩
set_option maxHeartbeats 8000000 in
set_option maxRecDepth 100000 in
theorem all_calls {σ : Type} (R T : List (List Int)) (g : Nat) (fv : FuncId) (caps : Array Value) (fn : Func) (hfn : Try.prog.funcs[fv]? = some fn) (hfn2 : (fn.name == "runtime.NumGoroutine") = false) (hfn3 : fn.body.isSome = true)
  (vis : σ → List Int → Option σ) (Inv : Nat → World → σ → Prop) (w : World) (s0 s1 : σ) (ch1 : List Int)
  (hstart : ∀ W, Below w.heap.size w W → Inv W.heap.size W s0) (hgm : ∀ N0 W s, Inv N0 W s → Gm W g R T) (hstab : ∀ N0 W W' s, w.heap.size ≤ N0 → Inv N0 W s → Side w.heap.size N0 W W' → Inv N0 W' s)
  (hcall : ∀ N0 W s s' A c l, w.heap.size ≤ N0 → N0 ≤ W.heap.size → Inv N0 W s → Kd.C (Kd.int .i64) W A l.length l → l.length ≤ c → l.length = R.length → vis s l = some s' → Calls Try.prog fv (#[.slice A l.length c] ++ caps) W fun e W' => e = .returned (.tuple #[]) ∧ Inv N0 W' s' ∧ Mid w.heap.size N0 W W')
  (hR1 : 1 ≤ R.length) (hR : R.length ≤ 5) (hRl : ∀ i, (rd_L12 R i).length ≤ 5) (h : onF R vis R.length 0 (List.replicate R.length 0) s0 = some (ch1, s1)) :
  Calls Try.prog 59 #[.pointer (some ⟨g, 0, none⟩), .func (.func fv) #[] caps] w fun e W' => e = .returned (.tuple #[]) ∧ ∃ N0, w.heap.size ≤ N0 ∧ Inv N0 W' s1 := by
 have hmf : ∀ (fn : Fn) (first cap : Array Value) (w : World), (Instr.makeFunc fn first cap).run Try.prog w = .ok (.func fn first cap) w := fun _ _ _ _ => rfl
 have HG := Aside0.mk (hgm _ _ _ (hstart w (Below.refl _ _)))
 have HST := Aside0.mk hstart
 have HON := Aside0.mk (fun N0 b4 b3 b2 b5 gc cp (hN : w.heap.size ≤ N0) => on_calls R T w.heap.size N0 b4 b3 b2 b5 gc cp g fv caps fn hfn hfn2 hfn3 vis (Inv N0) (hgm N0) (fun W W' s => hstab N0 W W' s hN) (fun W s s' A c l => hcall N0 W s s' A c l hN) hR hRl)
 have HH := Aside0.mk h
 have HR1 := Aside0.mk hR1
 have HR := Aside0.mk hR
 have HB := Aside0.mk (Below.refl w.heap.size w)
 have hn0 : decide ((0 : Int) ≤ (R.length : Int)) = true := decide_eq_true (by omega)
 clear hstart hgm hstab hcall hR1 hR hRl h hfn hfn2 hfn3
 go_enter Try.func59, Try.ntmps59
 go_upto_region 1 with (first | ((with_reducible refine gate_dst (N := 2) rfl ?_); refine box_event ?hg (N := 2) ?hd (cs := #[.pointer (some ⟨g, 0, none⟩)]) (t := 82) ?hr ?_; (case hd => rfl); (case hg => rfl); (case hr => first | (go_simp; done) | (go_simp; rfl)); intro b2 hg w1 hbox hb; have B2 := Aside0.mk hbox; have M2 := Aside0.mk (show w.heap.size ≤ b2 by rw [hg]; exact Nat.le_refl _); clear HB; have HB := Aside0.mk hb; clear hg hbox hb) | ((with_reducible refine gate_dst (N := 3) rfl ?_); refine box_event ?hg (N := 3) ?hd (cs := #[.func (.func fv) #[] caps]) (t := 89) ?hr ?_; (case hd => rfl); (case hg => rfl); (case hr => first | (go_simp; done) | (go_simp; rfl)); intro b3 hg w2 hbox hb; have B3 := Aside0.mk hbox; have M3 := Aside0.mk (show w.heap.size ≤ b3 by rw [hg]; exact below_size HB.out); have n0_ := Aside0.mk (below_step HB.out hb); have n1_ := Aside0.mk (blk_below B2.out hb); clear HB B2; have HB := n0_; have B2 := n1_; clear n0_ n1_ hg hbox hb))
 have HG2 := Aside0.mk (HG.out.below HB.out)
 obtain ⟨Ar, cr, Ap, cp2, q, g1, g2, g3, g4, g5, g6, g7⟩ := HG2.out.ex
 have hg_0 : w2.cell? ⟨g, 0, none⟩ = some (.slice Ar R.length cr) := (blk_cell g1 0).trans rfl
 have h2 : w2.cell? ⟨b2, 0, none⟩ = some (.pointer (some ⟨g, 0, none⟩)) := (blk_cell B2.out 0).trans rfl
 clear g1 g2 g3 g4 g5 g6 g7
 go_upto_region 2 with (first | ((with_reducible refine gate_dst (N := 11) rfl ?_); refine Kd.R_make (Kd.int .i64) (w0 := w) w.heap.size 3 rfl (N := 11) rfl 24 _ _ rfl (R.length : Int) rfl rfl Try.underlying24 (.int .i64 0) 8 info3 rfl (by decide) (by omega) 0 (ok := fun _ => True) (okp := fun _ => True) rfl (fun _ hk => hk) trivial (Int.natCast_nonneg _) (by have := HR.out; omega) HB.out (below_size HB.out) ?_; intro v11 w3 ho hb hg_ hnew_; have n0_ := Aside0.mk (blk_grown B2.out hg_ (by simp)); have n1_ := Aside0.mk (blk_grown B3.out hg_ (by simp)); have HO := Aside0.mk ho; clear HB B2 B3 hg_0 h2; have HB := Aside0.mk hb; have B2 := n0_; have B3 := n1_; clear n0_ n1_ ho hb hg_ hnew_; obtain ⟨gc, cp, hv11, hgc, hgc2, _⟩ := Kd.R_form HO.out (by rw [List.length_replicate]; have := HR1.out; omega); subst hv11; have MC := Aside0.mk hgc; have MC2 := Aside0.mk hgc2; clear hgc hgc2))
 obtain ⟨b4, hb4⟩ : ∃ b4, w3.heap.size = b4 := ⟨_, rfl⟩
 rw [hb4]
 obtain ⟨wq, hwq⟩ : ∃ wq, w3.alloc (.cells #[.slice (some ⟨gc, 0, none⟩) R.length cp] 24) = wq := ⟨_, rfl⟩
 rw [hwq]
 have n0_ : Below w3.heap.size w3 wq := hwq ▸ below_alloc (Below.refl _ _) _
 have B4 := Aside0.mk (hb4 ▸ hwq ▸ heap_alloc_new w3 _ : wq.heap[b4]? = some (.cells #[.slice (some ⟨gc, 0, none⟩) R.length cp] 24 (0, 0)))
 have M4 := Aside0.mk (show w.heap.size ≤ b4 by rw [← hb4]; exact below_size HB.out)
 have n1_ := Aside0.mk (below_step HB.out n0_)
 have n2_ := Aside0.mk (blk_below B2.out n0_)
 have n3_ := Aside0.mk (blk_below B3.out n0_)
 have n4_ := Aside0.mk (Kd.R_below HO.out n0_)
 clear HB B2 B3 HO hwq hb4 n0_
 have HB := n1_; have B2 := n2_; have B3 := n3_; have HO := n4_
 clear n1_ n2_ n3_ n4_
 go_upto_region 4 with (fail)
 obtain ⟨b5, hb5⟩ : ∃ b5, wq.heap.size = b5 := ⟨_, rfl⟩
 rw [hb5]
 obtain ⟨wz, hwz⟩ : ∃ wz, wq.alloc (.cells #[.func (.func 91) #[] #[.pointer (some ⟨b4, 0, none⟩), .pointer (some ⟨b3, 0, none⟩), .pointer (some ⟨b2, 0, none⟩), .pointer (some ⟨b5, 0, none⟩)]] 119) = wz := ⟨_, rfl⟩
 rw [hwz]
 have n0_ : Below wq.heap.size wq wz := hwz ▸ below_alloc (Below.refl _ _) _
 have B5 := Aside0.mk (by have h_ := heap_alloc_new wq (.cells #[.func (.func 91) #[] #[.pointer (some ⟨b4, 0, none⟩), .pointer (some ⟨b3, 0, none⟩), .pointer (some ⟨b2, 0, none⟩), .pointer (some ⟨b5, 0, none⟩)]] 119); rw [hwz, hb5] at h_; exact h_ : wz.heap[b5]? = some (.cells #[.func (.func 91) #[] #[.pointer (some ⟨b4, 0, none⟩), .pointer (some ⟨b3, 0, none⟩), .pointer (some ⟨b2, 0, none⟩), .pointer (some ⟨b5, 0, none⟩)]] 119 (0, 0)))
 have M5 := Aside0.mk (show w.heap.size ≤ b5 by rw [← hb5]; exact below_size HB.out)
 have n1_ := Aside0.mk (below_step HB.out n0_)
 have n2_ := Aside0.mk (blk_below B2.out n0_)
 have n3_ := Aside0.mk (blk_below B3.out n0_)
 have n4_ := Aside0.mk (Kd.R_below HO.out n0_)
 have n5_ := Aside0.mk (blk_below B4.out n0_)
 clear HB B2 B3 HO B4 hwz hb5 n0_
 have HB := n1_; have B2 := n2_; have B3 := n3_; have HO := n4_; have B4 := n5_
 clear n1_ n2_ n3_ n4_ n5_
 have HE := Aside0.mk (show AEnv wz w.heap.size wz.heap.size b4 b3 b2 b5 gc cp R.length g (.func (.func fv) #[] caps) (List.replicate R.length 0) from ⟨B4.out, B3.out, B2.out, B5.out, Kd.R_mono (Kd.R_tight rfl (by have := HO.out; simp only [Int.toNat_natCast, List.length_replicate] at this; exact this)) (fun k hk => by injection hk), ⟨M4.out, blk_lt B4.out⟩, ⟨M3.out, blk_lt B3.out⟩, ⟨M2.out, blk_lt B2.out⟩, ⟨M5.out, blk_lt B5.out⟩, ⟨MC.out, Kd.R_lt HO.out gc rfl⟩, Nat.le_refl _⟩)
 have HS := Aside0.mk (HST.out wz HB.out)
 have h5 : wz.cell? ⟨b5, 0, none⟩ = some (.func (.func 91) #[] #[.pointer (some ⟨b4, 0, none⟩), .pointer (some ⟨b3, 0, none⟩), .pointer (some ⟨b2, 0, none⟩), .pointer (some ⟨b5, 0, none⟩)]) := (blk_cell B5.out 0).trans rfl
 go_wp2_with (first | (go_at_call 91; ((refine (HON.out wz.heap.size b4 b3 b2 b5 gc cp (below_size HB.out) R.length 0 (List.replicate R.length 0) ch1 s0 s1 wz (Nat.zero_add _) (List.length_replicate ..) HE.out HS.out HH.out).mono ?_); rintro e w5 ⟨rfl, _, _, hI⟩; have HI := Aside0.mk hI; have HN := Aside0.mk (below_size HB.out); clear hI h5)))
 go_end0
 try go_wp2
 first | exact ⟨_, HN.out, HI.out⟩ | exact ⟨by first | rfl | (simp; done), _, HN.out, HI.out⟩
end Go.Proofs.Ytjgbdicbdlollaa.B
namespace Go.Proofs.Ytjgbdicbdlollaa.B
open Go.RowKit Go.Proofs.YtjgbdicbdlollaaW.PrintWords Go.Proofs.YtjgbdicbdlollaaW.PrintLast Go.Proofs.YtjgbdicbdlollaaW.PrintMore
set_option linter.unusedVariables false
set_option linter.unusedSimpArgs false
/-- What Best's visitor does to the best choice and the least total. -/
def visB (k : Nat) (R T : List (List Int)) (s : List Int × Int) (ch : List Int) : Option (List Int × Int) :=
  (jam_game_costs.f k R (unitsOf T) (payF T) ch).bind fun r => if s.1 = [] ∨ r.2 < s.2 then (slices_Clone.f ch).bind fun c => some (c, r.2) else some s
theorem visB_mono (k : Nat) (R T : List (List Int)) (s : List Int × Int) (ch : List Int) : LeO (visB k R T s ch) (visB (k + 1) R T s ch) := by
  unfold visB
  exact LeO.bind (jam_game_costs.mono _ _ _ _ k) fun r => LeO.refl _
def jam_Best.f (k : Nat) (R T : List (List Int)) : Option (List Int × Int × Int) :=
  if readOk R T = true then (onF R (visB k R T) R.length 0 (List.replicate R.length 0) ([], 0)).bind fun q => some (q.2.1, q.2.2, 0) else some ([], 0, 2)
theorem jam_Best.mono : ∀ R T k, LeO (jam_Best.f k R T) (jam_Best.f (k + 1) R T) := by
  intro R T k
  unfold jam_Best.f
  exact LeO.ite (LeO.bind (onF_mono R (visB_mono k R T) _ _ _ _) fun q => LeO.refl _) (LeO.refl _)
theorem readOk_routes {R T : List (List Int)} (h : readOk R T = true) : 1 ≤ R.length ∧ R.length ≤ 5 ∧ ∀ i, (rd_L12 R i).length ≤ 5 := by
  unfold readOk at h
  simp only [Bool.and_eq_true, decide_eq_true_eq] at h
  refine ⟨h.1.1.1.1.1, h.1.1.1.1.2, fun i => ?_⟩
  have h2 := h.2
  rw [List.all_eq_true] at h2
  unfold rd_L12
  rcases Nat.lt_or_ge i.toNat R.length with hj | hj
  · rw [List.getD_eq_getElem?_getD, List.getElem?_eq_getElem hj]
    have h3 := h2 _ (List.getElem_mem hj)
    unfold routeOk at h3
    simp only [Bool.and_eq_true, decide_eq_true_eq] at h3
    exact h3.1.1.2
  · rw [List.getD_eq_getElem?_getD, List.getElem?_eq_none hj]; simp
/-- What Best's variables say. -/
structure InvB (wG : World) (n1 b5 b7 b8 g : Nat) (R T : List (List Int)) (N0 : Nat) (W : World) (s : List Int × Int) : Prop where
  hB : Below wG.heap.size wG W
  hG : Gm wG g R T
  c5 : W.heap[b5]? = some (.cells #[.pointer (some ⟨g, 0, none⟩)] 82 (0, 0))
  c7 : ∃ vb, W.heap[b7]? = some (.cells #[vb] 24 (0, 0)) ∧ ((vb = .slice none 0 0 ∧ s.1 = []) ∨ s.1 ≠ []) ∧ Kd.R (Kd.int .i64) 3 W N0 (fun k => N0 ≤ k) vb s.1
  c8 : W.heap[b8]? = some (.cells #[.int .i64 s.2] 3 (0, 0))
  o5 : wG.heap.size ≤ b5 ∧ b5 < n1
  o7 : wG.heap.size ≤ b7 ∧ b7 < n1
  o8 : wG.heap.size ≤ b8 ∧ b8 < n1
  oN : n1 ≤ N0
section
variable {wG W W' : World} {n1 b5 b7 b8 g N0 : Nat} {R T : List (List Int)} {s : List Int × Int}
theorem InvB.gm (h : InvB wG n1 b5 b7 b8 g R T N0 W s) : Gm W g R T := h.hG.below h.hB
theorem InvB.side (h : InvB wG n1 b5 b7 b8 g R T N0 W s) (hs : Side n1 N0 W W') : InvB wG n1 b5 b7 b8 g R T N0 W' s := by
  obtain ⟨vb, h1, h2, h3⟩ := h.c7
  refine ⟨⟨hs.os.trans h.hB.os, hs.tape.trans h.hB.tape, hs.output.trans h.hB.output, Nat.le_trans h.hB.size hs.size, fun k hk => (hs.blk k (Nat.lt_of_lt_of_le hk h.hB.size) (.inl (by have := h.o5; omega))).trans (h.hB.block k hk)⟩, h.hG, (hs.blk _ (blk_lt h.c5) (.inl h.o5.2)).trans h.c5, ⟨vb, (hs.blk _ (blk_lt h1) (.inl h.o7.2)).trans h1, h2, Kd.R_step h3 (fun k hk hlt => hs.blk k hlt (.inr hk))⟩, (hs.blk _ (blk_lt h.c8) (.inl h.o8.2)).trans h.c8, h.o5, h.o7, h.o8, h.oN⟩
theorem InvB.below (h : InvB wG n1 b5 b7 b8 g R T N0 W s) (hb : Below W.heap.size W W') : InvB wG n1 b5 b7 b8 g R T N0 W' s := by
  obtain ⟨vb, h1, h2, h3⟩ := h.c7
  exact ⟨below_step h.hB hb, h.hG, blk_below h.c5 hb, ⟨vb, blk_below h1 hb, h2, Kd.R_below h3 hb⟩, blk_below h.c8 hb, h.o5, h.o7, h.o8, h.oN⟩
theorem InvB.ne78 (h : InvB wG n1 b5 b7 b8 g R T N0 W s) : b7 ≠ b8 := by
  obtain ⟨vb, h1, h2, h3⟩ := h.c7
  rintro rfl
  have := h1.symm.trans h.c8
  injection this with this
  injection this with _ this
  exact absurd this (by decide)
theorem Mid.of_below (hb : Below W.heap.size W W') (hN : N0 ≤ W.heap.size) : Mid n1 N0 W W' := ⟨hb.size, fun k _ hk => hb.block k (Nat.lt_of_lt_of_le hk hN)⟩
/-- A better choice. -/
theorem InvB.put (h : InvB wG n1 b5 b7 b8 g R T N0 W s) (hN : N0 ≤ W.heap.size) {v : Value} {c : List Int} {t : Int} (hc : c ≠ []) (hR : Kd.R (Kd.int .i64) 3 W N0 (fun k => N0 ≤ k) v c) :
    InvB wG n1 b5 b7 b8 g R T N0 ((W.setCell ⟨b7, 0, none⟩ v).setCell ⟨b8, 0, none⟩ (.int .i64 t)) (c, t) ∧ Mid n1 N0 W ((W.setCell ⟨b7, 0, none⟩ v).setCell ⟨b8, 0, none⟩ (.int .i64 t)) := by
  obtain ⟨vb, h1, h2, h3⟩ := h.c7
  have hk : ∀ k, k ≠ b7 → k ≠ b8 → ((W.setCell ⟨b7, 0, none⟩ v).setCell ⟨b8, 0, none⟩ (.int .i64 t)).heap[k]? = W.heap[k]? := fun k e7 e8 => (Below.heap_setCell _ ⟨b8, 0, none⟩ _ k e8).trans (Below.heap_setCell _ ⟨b7, 0, none⟩ _ k e7)
  have n57 : b5 ≠ b7 := by
    rintro rfl
    have := h.c5.symm.trans h1
    injection this with this
    injection this with _ this
    exact absurd this (by decide)
  have n58 : b5 ≠ b8 := by
    rintro rfl
    have := h.c5.symm.trans h.c8
    injection this with this
    injection this with _ this
    exact absurd this (by decide)
  have n78 : b7 ≠ b8 := by
    rintro rfl
    have := h1.symm.trans h.c8
    injection this with this
    injection this with _ this
    exact absurd this (by decide)
  have hA := below_set (j := 0) (v := v) h.hB h.o7.1
  have hB := below_set (j := 0) (v := .int .i64 t) hA h.o8.1
  refine ⟨⟨hB, h.hG, (hk _ n57 n58).trans h.c5, ⟨v, ?_, .inr hc, Kd.R_step hR (fun k hk2 _ => hk k (by have := h.o7; have := h.oN; omega) (by have := h.o8; have := h.oN; omega))⟩, ?_, h.o5, h.o7, h.o8, h.oN⟩, ?_, fun k h1 h2 => hk k (by have := h.o7; omega) (by have := h.o8; omega)⟩
  · exact blk_far (blk_put (cs := #[vb]) h1 0 v rfl) n78 _
  · exact blk_put (cs := #[.int .i64 s.2]) (blk_far h.c8 (fun e => n78 e.symm) _) 0 _ rfl
  · simp
end
set_option maxHeartbeats 8000000 in
set_option maxRecDepth 100000 in
theorem best1_calls (k : Nat) (wG : World) (n1 b5 b7 b8 g : Nat) (R T : List (List Int)) (N0 : Nat) (W : World) (s s' : List Int × Int) (A : Option Addr) (c : Nat) (l : List Int) (hN : N0 ≤ W.heap.size) (hI : InvB wG n1 b5 b7 b8 g R T N0 W s) (hr : Kd.C (Kd.int .i64) W A l.length l) (hc : l.length ≤ c) (hl : l.length ≠ 0) (h : visB k R T s l = some s') :
  Calls Try.prog 60 #[.slice A l.length c, .pointer (some ⟨b5, 0, none⟩), .pointer (some ⟨b7, 0, none⟩), .pointer (some ⟨b8, 0, none⟩)] W fun e W' => e = .returned (.tuple #[]) ∧ InvB wG n1 b5 b7 b8 g R T N0 W' s' ∧ Mid n1 N0 W W' := by
 have qT : ∀ (w : World) (a : Option Addr) (n c n' c' : Nat), (binOp .eql 24 (.slice a n c) (.slice none n' c')).run Try.prog w = .ok (.bool a.isNone) w := fun w a n c n' c' => Lib.run_eql_slice_nil w _ _ a n c n' c' Try.underlying24
 unfold visB at h
 obtain ⟨⟨r1, r2⟩, hx, h⟩ := Option.bind_eq_some_iff.1 h
 simp only at h
 have HX := Aside0.mk hx
 have HR := Aside0.mk hr
 have HC := Aside0.mk hc
 have HN := Aside0.mk hN
 have HL := Aside0.mk hl
 have HI0 := Aside0.mk hI
 have HM := Aside0.mk (Mid.of_below (n1 := n1) (Below.refl W.heap.size W) hN)
 have HB := Aside0.mk (Below.refl W.heap.size W)
 have h5 : W.cell? ⟨b5, 0, none⟩ = some (.pointer (some ⟨g, 0, none⟩)) := (blk_cell hI.c5 0).trans rfl
 have n78 := hI.ne78
 have n87 : b8 ≠ b7 := fun e => n78 e.symm
 clear hx hr hc hN hI hl

 by_cases hn : s.1 = []
 ·rw [if_pos (.inl hn)] at h
  obtain ⟨c2, hcl, h⟩ := Option.bind_eq_some_iff.1 h
  obtain rfl := Option.some.inj h
  have HCL := Aside0.mk hcl
  have HNX := Aside0.mk hn
  clear hcl hn h
  go_enter Try.func60, Try.ntmps60
  go_wp2_with (first | (go_at_call 61; (refine (costs_g k g R T A c l r1 r2 _ HI0.out.gm HR.out HC.out HX.out).mono ?_); rintro e w3 ⟨v1, rfl, _, hb⟩; have HI := Aside0.mk (HI0.out.below hb); clear HB h5; have HB := Aside0.mk hb; clear hb; obtain ⟨vb, hc7, hnil, hRb⟩ := HI.out.c7; have h7 : w3.cell? ⟨b7, 0, none⟩ = some vb := (blk_cell hc7 0).trans rfl; have f7 := blk_frozen hc7 0; have h8 : w3.cell? ⟨b8, 0, none⟩ = some (.int .i64 s.2) := (blk_cell HI.out.c8 0).trans rfl; have f8 := blk_frozen HI.out.c8 0; obtain rfl : vb = .slice none 0 0 := (by rcases hnil with ⟨h1, _⟩ | h2; exact h1; exact absurd HNX.out h2); clear hnil; clear hRb hc7) | (go_at_call 62; (refine (slices_Clone.calls A c l c2 _ (Kd.C_below HR.out HB.out) HC.out HCL.out).mono ?_); rintro e w4 ⟨v2, rfl, ho, hb⟩; obtain ⟨Ac, cc, hv2⟩ := Kd.R_slice ho; subst hv2; have HI2 := Aside0.mk (HI.out.below hb); have HR2 := Aside0.mk (Kd.R_mono (Kd.R_bound (Kd.R_lower ho (Nat.le_trans HN.out HB.out.size))) (fun _ hk => hk.2.1)); have n0_ := Aside0.mk (below_step HB.out hb); clear HB ho h7 h8 f7 f8; have HB := n0_; clear n0_ hb; obtain ⟨vb4, hc74, _, _⟩ := HI2.out.c7; have h7 : w4.cell? ⟨b7, 0, none⟩ = some vb4 := (blk_cell hc74 0).trans rfl; have f7 := blk_frozen hc74 0; have h8 : w4.cell? ⟨b8, 0, none⟩ = some (.int .i64 s.2) := (blk_cell HI2.out.c8 0).trans rfl; have f8 := blk_frozen HI2.out.c8 0; clear hc74))
  have HP := Aside0.mk (HI2.out.put (t := r2) (Nat.le_trans HN.out HB.out.size) (by intro e; have := HCL.out; unfold slices_Clone.f at this; split at this; (have h1 := Option.some.inj this; rw [← h1] at e; exact HL.out (by rw [e]; rfl)); exact absurd this (by simp)) HR2.out)
  go_end0
  try go_wp2
  first | exact ⟨HP.out.1, Nat.le_trans HB.out.size HP.out.2.size, fun k h1 h2 => (HP.out.2.blk k h1 h2).trans (HB.out.block k (Nat.lt_of_lt_of_le h2 HN.out))⟩ | exact ⟨by first | rfl | (simp; done), HP.out.1, Nat.le_trans HB.out.size HP.out.2.size, fun k h1 h2 => (HP.out.2.blk k h1 h2).trans (HB.out.block k (Nat.lt_of_lt_of_le h2 HN.out))⟩
 ·have HNX := Aside0.mk hn
  by_cases ht : r2 < s.2
  ·rw [if_pos (.inr ht)] at h
   obtain ⟨c2, hcl, h⟩ := Option.bind_eq_some_iff.1 h
   obtain rfl := Option.some.inj h
   have HCL := Aside0.mk hcl
   have c0 : decide (r2 < s.2) = true := decide_eq_true ht
   clear hcl hn h ht
   go_enter Try.func60, Try.ntmps60
   go_wp2_with (first | (go_at_call 61; (refine (costs_g k g R T A c l r1 r2 _ HI0.out.gm HR.out HC.out HX.out).mono ?_); rintro e w3 ⟨v1, rfl, _, hb⟩; have HI := Aside0.mk (HI0.out.below hb); clear HB h5; have HB := Aside0.mk hb; clear hb; obtain ⟨vb, hc7, hnil, hRb⟩ := HI.out.c7; have h7 : w3.cell? ⟨b7, 0, none⟩ = some vb := (blk_cell hc7 0).trans rfl; have f7 := blk_frozen hc7 0; have h8 : w3.cell? ⟨b8, 0, none⟩ = some (.int .i64 s.2) := (blk_cell HI.out.c8 0).trans rfl; have f8 := blk_frozen HI.out.c8 0; obtain ⟨g5, cc5, hv5, _⟩ := Kd.R_form hRb (List.length_pos_iff.2 HNX.out); subst hv5; clear hnil; clear hRb hc7) | (go_at_call 62; (refine (slices_Clone.calls A c l c2 _ (Kd.C_below HR.out HB.out) HC.out HCL.out).mono ?_); rintro e w4 ⟨v2, rfl, ho, hb⟩; obtain ⟨Ac, cc, hv2⟩ := Kd.R_slice ho; subst hv2; have HI2 := Aside0.mk (HI.out.below hb); have HR2 := Aside0.mk (Kd.R_mono (Kd.R_bound (Kd.R_lower ho (Nat.le_trans HN.out HB.out.size))) (fun _ hk => hk.2.1)); have n0_ := Aside0.mk (below_step HB.out hb); clear HB ho h7 h8 f7 f8; have HB := n0_; clear n0_ hb; obtain ⟨vb4, hc74, _, _⟩ := HI2.out.c7; have h7 : w4.cell? ⟨b7, 0, none⟩ = some vb4 := (blk_cell hc74 0).trans rfl; have f7 := blk_frozen hc74 0; have h8 : w4.cell? ⟨b8, 0, none⟩ = some (.int .i64 s.2) := (blk_cell HI2.out.c8 0).trans rfl; have f8 := blk_frozen HI2.out.c8 0; clear hc74))
   have HP := Aside0.mk (HI2.out.put (t := r2) (Nat.le_trans HN.out HB.out.size) (by intro e; have := HCL.out; unfold slices_Clone.f at this; split at this; (have h1 := Option.some.inj this; rw [← h1] at e; exact HL.out (by rw [e]; rfl)); exact absurd this (by simp)) HR2.out)
   go_end0
   try go_wp2
   first | exact ⟨HP.out.1, Nat.le_trans HB.out.size HP.out.2.size, fun k h1 h2 => (HP.out.2.blk k h1 h2).trans (HB.out.block k (Nat.lt_of_lt_of_le h2 HN.out))⟩ | exact ⟨by first | rfl | (simp; done), HP.out.1, Nat.le_trans HB.out.size HP.out.2.size, fun k h1 h2 => (HP.out.2.blk k h1 h2).trans (HB.out.block k (Nat.lt_of_lt_of_le h2 HN.out))⟩
  ·rw [if_neg (by rintro (h1 | h1); exact hn h1; exact ht h1)] at h
   obtain rfl := Option.some.inj h
   have c0 : decide (r2 < s.2) = false := decide_eq_false ht
   clear hn h ht
   go_enter Try.func60, Try.ntmps60
   go_wp2_with (first | (go_at_call 61; (refine (costs_g k g R T A c l r1 r2 _ HI0.out.gm HR.out HC.out HX.out).mono ?_); rintro e w3 ⟨v1, rfl, _, hb⟩; have HI := Aside0.mk (HI0.out.below hb); clear HB h5; have HB := Aside0.mk hb; clear hb; obtain ⟨vb, hc7, hnil, hRb⟩ := HI.out.c7; have h7 : w3.cell? ⟨b7, 0, none⟩ = some vb := (blk_cell hc7 0).trans rfl; have f7 := blk_frozen hc7 0; have h8 : w3.cell? ⟨b8, 0, none⟩ = some (.int .i64 s.2) := (blk_cell HI.out.c8 0).trans rfl; have f8 := blk_frozen HI.out.c8 0; obtain ⟨g5, cc5, hv5, _⟩ := Kd.R_form hRb (List.length_pos_iff.2 HNX.out); subst hv5; clear hnil; clear hRb hc7))
   go_end0
   try go_wp2
   first | exact ⟨HI.out, Mid.of_below HB.out HN.out⟩ | exact ⟨by first | rfl | (simp; done), HI.out, Mid.of_below HB.out HN.out⟩
set_option maxHeartbeats 8000000 in
set_option maxRecDepth 100000 in
theorem jam_Best.calls (k : Nat) (A0_0 : Option Addr) (c0_0 : Nat) (l0_0 : List (List Int)) (A0_1 : Option Addr) (c0_1 : Nat) (l0_1 : List (List Int)) (r1 : List Int) (r2 r3 : Int) (w : World) (hr0_0 : Kd.C (Kd.slice 3 (Kd.int .i64)) w A0_0 l0_0.length l0_0) (hc0_0 : l0_0.length ≤ c0_0) (hr0_1 : Kd.C (Kd.slice 3 (Kd.int .i64)) w A0_1 l0_1.length l0_1) (hc0_1 : l0_1.length ≤ c0_1) (h : jam_Best.f k l0_0 l0_1 = some (r1, r2, r3)) :
  Calls Try.prog 27 #[.agg #[.slice A0_0 l0_0.length c0_0, .slice A0_1 l0_1.length c0_1]] w fun e w' => ∃ v0_ : Value, e = .returned (.tuple #[v0_, .int .i64 r2, .int .i64 r3]) ∧ Kd.R (Kd.int .i64) 3 w' w.heap.size (fun _ => True) v0_ r1 ∧ Below w.heap.size w w' := by
 have hu41 := Try.underlying41
 have hmf : ∀ (fn : Fn) (first cap : Array Value) (w : World), (Instr.makeFunc fn first cap).run Try.prog w = .ok (.func fn first cap) w := fun _ _ _ _ => rfl
 have HR0 := Aside0.mk hr0_0
 have HC0 := Aside0.mk hc0_0
 have HR1 := Aside0.mk hr0_1
 have HC1 := Aside0.mk hc0_1
 clear hr0_0 hc0_0 hr0_1 hc0_1
 have HB := Aside0.mk (Below.refl w.heap.size w)
 unfold jam_Best.f at h
 by_cases hp : readOk l0_0 l0_1 = true
 case neg =>
  rw [if_neg hp] at h
  have HPO := Aside0.mk (Bool.eq_false_iff.mpr hp)
  clear hp
  simp only [Option.some.injEq, Prod.mk.injEq] at h
  obtain ⟨rfl, rfl, rfl⟩ := h
  go_enter Try.func27, Try.ntmps27
  go_wp2_with (first | ((with_reducible refine gate_dst (N := 1) rfl ?_); refine box_event ?hg (N := 1) ?hd (cs := #[.slice A0_0 l0_0.length c0_0, .slice A0_1 l0_1.length c0_1]) (t := 41) ?hr ?_; (case hd => rfl); (case hg => rfl); (case hr => first | (go_simp; done) | (go_simp; rfl)); intro gb hg w1 hbox hb; have BB := Aside0.mk hbox; clear HB; have HB := Aside0.mk hb; clear hg hbox hb; have hb_0 : w1.cell? ⟨gb, 0, none⟩ = some (.slice A0_0 l0_0.length c0_0) := (blk_cell BB.out 0).trans rfl; have hb_1 : w1.cell? ⟨gb, 1, none⟩ = some (.slice A0_1 l0_1.length c0_1) := (blk_cell BB.out 1).trans rfl) | (go_at_call 58; (refine (read_err A0_0 c0_0 l0_0 A0_1 c0_1 l0_1 _ (Kd.C_below HR0.out HB.out) HC0.out (Kd.C_below HR1.out HB.out) HC1.out HPO.out).mono ?_); rintro e w2 ⟨rfl, hb⟩; have n0_ := Aside0.mk (below_step HB.out hb); clear HB BB hb hb_0 hb_1; have HB := n0_; clear n0_))
  go_ret3
  exact ⟨_, by first | rfl | (simp; done), Kd.R_nil _ _ _ _ _, by repeat (first | (with_reducible first | exact HB.out | apply below_alloc | apply pw_below_drewN | apply below_drew1) | exact HB.out)⟩
 rw [if_pos hp] at h
 have HPO := Aside0.mk hp
 clear hp
 obtain ⟨⟨ch1, x1, x2⟩, hx, h⟩ := Option.bind_eq_some_iff.1 h
 have HX := Aside0.mk hx
 clear hx
 simp only [Option.some.injEq, Prod.mk.injEq] at h
 obtain ⟨rfl, rfl, rfl⟩ := h
 go_enter Try.func27, Try.ntmps27
 go_upto_region 4 with (first | ((with_reducible refine gate_dst (N := 1) rfl ?_); refine box_event ?hg (N := 1) ?hd (cs := #[.slice A0_0 l0_0.length c0_0, .slice A0_1 l0_1.length c0_1]) (t := 41) ?hr ?_; (case hd => rfl); (case hg => rfl); (case hr => first | (go_simp; done) | (go_simp; rfl)); intro gb hg w1 hbox hb; have BB := Aside0.mk hbox; clear HB; have HB := Aside0.mk hb; clear hg hbox hb; have hb_0 : w1.cell? ⟨gb, 0, none⟩ = some (.slice A0_0 l0_0.length c0_0) := (blk_cell BB.out 0).trans rfl; have hb_1 : w1.cell? ⟨gb, 1, none⟩ = some (.slice A0_1 l0_1.length c0_1) := (blk_cell BB.out 1).trans rfl) | (go_at_call 58; (refine (read_ok A0_0 c0_0 l0_0 A0_1 c0_1 l0_1 _ (Kd.C_below HR0.out HB.out) HC0.out (Kd.C_below HR1.out HB.out) HC1.out HPO.out).mono ?_); rintro e w2 ⟨g, rfl, _, hG, hb⟩; have GM := Aside0.mk hG; have n0_ := Aside0.mk (below_step HB.out hb); clear HB BB hb hG hb_0 hb_1; have HB := n0_; clear n0_))
 obtain ⟨b5, hb5⟩ : ∃ b5, w2.heap.size = b5 := ⟨_, rfl⟩
 rw [hb5]
 obtain ⟨wa, hwa⟩ : ∃ wa, w2.alloc (.cells #[.pointer (some ⟨g, 0, none⟩)] 82) = wa := ⟨_, rfl⟩
 rw [hwa]
 have n0_ : Below w2.heap.size w2 wa := hwa ▸ below_alloc (Below.refl _ _) _
 have B5 := Aside0.mk (hb5 ▸ hwa ▸ heap_alloc_new w2 _ : wa.heap[b5]? = some (.cells #[.pointer (some ⟨g, 0, none⟩)] 82 (0, 0)))
 have O5 := Aside0.mk (show w2.heap.size ≤ b5 by rw [hb5]; exact Nat.le_refl _)
 have HBA := Aside0.mk n0_
 clear hwa hb5 n0_
 go_upto_region 5 with (fail)
 obtain ⟨b7, hb7⟩ : ∃ b7, wa.heap.size = b7 := ⟨_, rfl⟩
 rw [hb7]
 obtain ⟨wb, hwb⟩ : ∃ wb, wa.alloc (.cells #[.slice none 0 0] 24) = wb := ⟨_, rfl⟩
 rw [hwb]
 have n0_ : Below wa.heap.size wa wb := hwb ▸ below_alloc (Below.refl _ _) _
 have B7 := Aside0.mk (hb7 ▸ hwb ▸ heap_alloc_new wa _ : wb.heap[b7]? = some (.cells #[.slice none 0 0] 24 (0, 0)))
 have O7 := Aside0.mk (show w2.heap.size ≤ b7 by rw [← hb7]; exact HBA.out.size)
 have n1_ := Aside0.mk (below_step HBA.out n0_)
 have n2_ := Aside0.mk (blk_below B5.out n0_)
 clear HBA B5 hwb hb7 n0_
 have HBA := n1_; have B5 := n2_
 clear n1_ n2_
 go_upto_region 6 with (fail)
 obtain ⟨b8, hb8⟩ : ∃ b8, wb.heap.size = b8 := ⟨_, rfl⟩
 rw [hb8]
 obtain ⟨wz, hwz⟩ : ∃ wz, wb.alloc (.cells #[.int .i64 0] 3) = wz := ⟨_, rfl⟩
 rw [hwz]
 have n0_ : Below wb.heap.size wb wz := hwz ▸ below_alloc (Below.refl _ _) _
 have B8 := Aside0.mk (hb8 ▸ hwz ▸ heap_alloc_new wb _ : wz.heap[b8]? = some (.cells #[.int .i64 0] 3 (0, 0)))
 have O8 := Aside0.mk (show w2.heap.size ≤ b8 by rw [← hb8]; exact HBA.out.size)
 have n1_ := Aside0.mk (below_step HBA.out n0_)
 have n2_ := Aside0.mk (blk_below B5.out n0_)
 have n3_ := Aside0.mk (blk_below B7.out n0_)
 clear HBA B5 B7 hwz hb8 n0_
 have HBA := n1_; have B5 := n2_; have B7 := n3_
 clear n1_ n2_ n3_
 have HRO := Aside0.mk (readOk_routes HPO.out)
 have HST := Aside0.mk (show ∀ W, Below wz.heap.size wz W → InvB w2 wz.heap.size b5 b7 b8 g l0_0 l0_1 W.heap.size W ([], 0) from fun W hW => ⟨below_step HBA.out hW, GM.out, blk_below B5.out hW, ⟨_, blk_below B7.out hW, .inl ⟨rfl, rfl⟩, Kd.R_nil _ _ _ _ _⟩, blk_below B8.out hW, ⟨O5.out, blk_lt B5.out⟩, ⟨O7.out, blk_lt B7.out⟩, ⟨O8.out, blk_lt B8.out⟩, hW.size⟩)
 have h5 : wz.cell? ⟨b5, 0, none⟩ = some (.pointer (some ⟨g, 0, none⟩)) := (blk_cell B5.out 0).trans rfl
 go_upto_region 7 with (first | (go_at_call 59; go_loud ((refine (all_calls l0_0 l0_1 g 60 #[.pointer (some ⟨b5, 0, none⟩), .pointer (some ⟨b7, 0, none⟩), .pointer (some ⟨b8, 0, none⟩)] _ Try.func60 (by kernel_rfl) rfl (visB k l0_0 l0_1) (InvB w2 wz.heap.size b5 b7 b8 g l0_0 l0_1) wz ([], 0) (x1, x2) ch1 HST.out (fun N0 W s h => h.gm) (fun N0 W W' s _ h hs => h.side hs) (fun N0 W s s' A c l hn hN hI hC hc hl hv => best1_calls k w2 wz.heap.size b5 b7 b8 g l0_0 l0_1 N0 W s s' A c l hN hI hC hc (by have := HRO.out.1; omega) hv) HRO.out.1 HRO.out.2.1 HRO.out.2.2 HX.out).mono ?_); rintro e w5 ⟨rfl, N0, hn, hI⟩; have HN := Aside0.mk hn; have HI := Aside0.mk hI; clear hn hI h5)))
 obtain ⟨vb, hc7, hnil, hRb⟩ := HI.out.c7
 have HRB := Aside0.mk hRb
 have h7 : w5.cell? ⟨b7, 0, none⟩ = some vb := (blk_cell hc7 0).trans rfl
 have h8 : w5.cell? ⟨b8, 0, none⟩ = some (.int .i64 x2) := (blk_cell HI.out.c8 0).trans rfl
 obtain ⟨Ab, cb, hvb⟩ := Kd.R_slice hRb
 subst hvb
 clear hc7 hnil hRb
 go_region_held3 (fun w' => w'.cell? ⟨b7, 0, none⟩ = some (.slice Ab x1.length cb) ∧ w'.cell? ⟨b8, 0, none⟩ = some (.int .i64 x2)) (go_keep) (fail)
 go_wp2
 go_ret3
 exact ⟨_, by first | rfl | (simp; done), by (with_reducible repeat (first | apply Kd.R_alloc | apply Kd.R_drewN | apply Kd.R_drew)); exact Kd.R_mono (Kd.R_lower HRB.out (Nat.le_trans (Nat.le_trans (below_size HB.out) HBA.out.size) HN.out)) (fun _ _ => trivial), by repeat (first | (with_reducible first | exact (below_step HB.out HI.out.hB) | apply below_alloc | apply pw_below_drewN | apply below_drew1) | exact (below_step HB.out HI.out.hB))⟩
end Go.Proofs.Ytjgbdicbdlollaa.B
namespace Go.Proofs.Ytjgbdicbdlollaa.B
open Go.RowKit Go.Proofs.YtjgbdicbdlollaaW.PrintWords Go.Proofs.YtjgbdicbdlollaaW.PrintLast Go.Proofs.YtjgbdicbdlollaaW.PrintMore
attribute [local go_sem] max2_int min2_int max_two min_two max_three min_three max_four min_four   -- for this text's walks alone
set_option linter.unusedVariables false
set_option linter.unusedSimpArgs false
theorem eqA28 (d : Nat) (w : World) (x0 y0 : Int) (x1 y1 : Int) :
    (Op.equalIn (d + 2) 28 (.agg #[.int .i64 x0, .int .i64 x1]) (.agg #[.int .i64 y0, .int .i64 y1])).run Try.prog w = .ok (x0 == y0 && (x1 == y1)) w := by
  refine eqA_of Try.underlying28 (by kernel_rfl) ?_
  refine eqf_cons (by rfl) (by go_simp; rfl) (by go_simp; rfl) (by go_simp) ?_
  exact eqf_last (by rfl) (by go_simp; rfl) (by go_simp; rfl) (by go_simp)
end Go.Proofs.Ytjgbdicbdlollaa.B
namespace Go.Proofs.Ytjgbdicbdlollaa.B
open Go.RowKit Go.Proofs.YtjgbdicbdlollaaW.PrintWords Go.Proofs.YtjgbdicbdlollaaW.PrintLast Go.Proofs.YtjgbdicbdlollaaW.PrintMore
attribute [local go_sem] max2_int min2_int max_two min_two max_three min_three max_four min_four   -- for this text's walks alone
set_option linter.unusedVariables false
set_option linter.unusedSimpArgs false
def trishawlaw02_same.l0 : Nat → List Int → List Int → Int → Option (Bool)
  | 0, _, _, _ => none
  | k + 1, x0, x1, x5 => if x5 < (x0.length : Int) then (if 0 ≤ x5 then (if x5 < (x1.length : Int) then (if (rd x0 x5) = (rd x1 x5) then (trishawlaw02_same.l0 k x0 x1 (wrap64 (x5 + 1))) else (some false)) else (none)) else (none)) else (some true)
def trishawlaw02_same.f (k : Nat) (l0 : List Int) (l1 : List Int) : Option (Bool) := if (l0.length : Int) = (l1.length : Int) then (trishawlaw02_same.l0 k l0 l1 0) else (some false)
theorem trishawlaw02_same.mono_l : ∀ k, (∀ y0 y1 y2, LeO (trishawlaw02_same.l0 k y0 y1 y2) (trishawlaw02_same.l0 (k + 1) y0 y1 y2))
  | 0 => fun _ _ _ r h => by simp [trishawlaw02_same.l0] at h
  | k + 1 => by
    have ih0 := trishawlaw02_same.mono_l k
    · intro y0 y1 y2
      unfold trishawlaw02_same.l0
      repeat' first
      | (with_reducible exact ih0 _ _ _)
      | (with_reducible exact LeO.refl _)
      | (with_reducible exact LeO.none _)
      | (with_reducible refine LeO.ite ?_ ?_)
      | (with_reducible refine LeO.bind ?_ (fun _ => ?_))
      | exact ih0 _ _ _
      | exact LeO.none _
      | refine LeO.ite ?_ ?_
      | refine LeO.bind ?_ (fun _ => ?_)
theorem trishawlaw02_same.mono : ∀ a0 a1 k, LeO (trishawlaw02_same.f k a0 a1) (trishawlaw02_same.f (k + 1) a0 a1) := by
  intro a0 a1 k
  have ih0 := trishawlaw02_same.mono_l k
  unfold trishawlaw02_same.f
  repeat' first
      | (with_reducible exact ih0 _ _ _)
      | (with_reducible exact LeO.refl _)
      | (with_reducible exact LeO.none _)
      | (with_reducible refine LeO.ite ?_ ?_)
      | (with_reducible refine LeO.bind ?_ (fun _ => ?_))
      | exact ih0 _ _ _
      | exact LeO.none _
      | refine LeO.ite ?_ ?_
      | refine LeO.bind ?_ (fun _ => ?_)
set_option maxHeartbeats 8000000 in
set_option maxRecDepth 100000 in
theorem trishawlaw02_same.calls (k : Nat) (A0 : Option Addr) (c0 : Nat) (l0 : List Int) (A1 : Option Addr) (c1 : Nat) (l1 : List Int) (r : Bool) (w : World) (hr0 : Kd.C (Kd.int .i64) w A0 l0.length l0) (hc0 : l0.length ≤ c0) (hr1 : Kd.C (Kd.int .i64) w A1 l1.length l1) (hc1 : l1.length ≤ c1) (h : trishawlaw02_same.f k l0 l1 = some r) :
  Calls Try.prog 31 #[.slice A0 l0.length c0, .slice A1 l1.length c1] w fun e w' => e = .returned (.bool r) ∧ Drawn0 w w' := by
 have HR0 := Aside0.mk hr0
 have HC0 := Aside0.mk hc0
 clear hr0 hc0
 have HR1 := Aside0.mk hr1
 have HC1 := Aside0.mk hc1
 clear hr1 hc1
 have H : (if (l0.length : Int) = (l1.length : Int) then (trishawlaw02_same.l0 k l0 l1 0) else (some false)) = some r := h
 clear h
 by_cases c3 : (l0.length : Int) = (l1.length : Int)
 ·rw [if_pos c3] at H
  have c3b0 : ((l0.length : Int) == (l1.length : Int)) = true := beq_iff_eq.mpr c3
  have c3b1 : ((l0.length : Int) != (l1.length : Int)) = false := bne_eq_false_iff_eq.mpr c3
  have c3b2 : (l0.length == l1.length) = true := by first | simpa using c3 | (simp at c3 ⊢; omega)
  clear c3
  have H' := Aside0.mk H
  clear H
  go_enter Try.func31, Try.ntmps31
  go_wp2
  repeat (go_quiet (fail); try go_wp2)
  go_loopg [5] k (fun kq v5 w' => ∃ (x5_1 : Int), v5 = .int .i64 x5_1 ∧ Aside0 (trishawlaw02_same.l0 kq l0 l1 x5_1 = some r) ∧ Aside0 (kq ≤ k) ∧ Drawn0 w w')
  case atStart => exact ⟨(0), (by first | rfl | (simp; done) | (simp [*]; done)), H', ⟨Nat.le_refl _⟩, by repeat (first | exact Drawn0.refl _ | apply Drawn0.step)⟩
  case round =>
   clear H'
   try clear c1
   try clear p2
   try clear c3
   try clear c3b0
   try clear c3b1
   try clear c3b2
   obtain ⟨x5_1, rfl, HA, HK1, ⟨m1, rfl⟩⟩ := hrel
   cases gk with
   | zero => exact absurd HA.out (by simp [trishawlaw02_same.l0])
   | succ k1 =>
    have H := HA.out
    clear HA
    simp only [trishawlaw02_same.l0] at H
    by_cases c4 : x5_1 < (l0.length : Int)
    ·rw [if_pos c4] at H
     have c4b0 : decide (x5_1 < (l0.length : Int)) = true := decide_eq_true c4
     clear c4
     by_cases c5 : 0 ≤ x5_1
     ·rw [if_pos c5] at H
      have c5b0 : decide (0 ≤ x5_1) = true := decide_eq_true c5
      clear c5
      by_cases c6 : x5_1 < (l1.length : Int)
      ·rw [if_pos c6] at H
       have c6b0 : decide (x5_1 < (l1.length : Int)) = true := decide_eq_true c6
       clear c6
       by_cases c7 : (rd l0 x5_1) = (rd l1 x5_1)
       ·rw [if_pos c7] at H
        have c7b0 : ((rd l0 x5_1) == (rd l1 x5_1)) = true := beq_iff_eq.mpr c7
        have c7b1 : ((rd l0 x5_1) != (rd l1 x5_1)) = false := bne_eq_false_iff_eq.mpr c7
        clear c7
        have H' := Aside0.mk H
        clear H
        have p121 : 0 ≤ (x5_1 : Int) := of_decide_eq_true (by first | (with_reducible assumption) | assumption)
        have q121 : x5_1 < (l0.length : Int) := of_decide_eq_true (by first | (with_reducible assumption) | assumption)
        obtain ⟨ad121, e121, hx121_0⟩ := Kd.at_int HR0.out x5_1 p121 q121
        cases e121
        replace p121 := eq_true p121
        replace q121 := eq_true q121
        have p122 : 0 ≤ (x5_1 : Int) := of_decide_eq_true (by first | (with_reducible assumption) | assumption)
        have q122 : x5_1 < (l1.length : Int) := of_decide_eq_true (by first | (with_reducible assumption) | assumption)
        obtain ⟨ad122, e122, hx122_0⟩ := Kd.at_int HR1.out x5_1 p122 q122
        cases e122
        replace p122 := eq_true p122
        replace q122 := eq_true q122
        go_wp2
        repeat (go_quiet (fail); try go_wp2)
        go_roundg k1
        case measure => have := HK1.out; omega
        case rel => exact ⟨(wrap64 (x5_1 + 1)), (by first | rfl | (simp; done) | (simp [*]; done)), H', ⟨by have := HK1.out; omega⟩, by repeat (first | exact Drawn0.refl _ | apply Drawn0.step)⟩
       ·rw [if_neg c7] at H
        have c7b0 : ((rd l0 x5_1) == (rd l1 x5_1)) = false := beq_eq_false_iff_ne.mpr c7
        have c7b1 : ((rd l0 x5_1) != (rd l1 x5_1)) = true := bne_iff_ne.mpr c7
        obtain rfl := Option.some.inj H
        have p121 : 0 ≤ (x5_1 : Int) := of_decide_eq_true (by first | (with_reducible assumption) | assumption)
        have q121 : x5_1 < (l0.length : Int) := of_decide_eq_true (by first | (with_reducible assumption) | assumption)
        obtain ⟨ad121, e121, hx121_0⟩ := Kd.at_int HR0.out x5_1 p121 q121
        cases e121
        replace p121 := eq_true p121
        replace q121 := eq_true q121
        have p122 : 0 ≤ (x5_1 : Int) := of_decide_eq_true (by first | (with_reducible assumption) | assumption)
        have q122 : x5_1 < (l1.length : Int) := of_decide_eq_true (by first | (with_reducible assumption) | assumption)
        obtain ⟨ad122, e122, hx122_0⟩ := Kd.at_int HR1.out x5_1 p122 q122
        cases e122
        replace p122 := eq_true p122
        replace q122 := eq_true q122
        go_wp2
        repeat (go_quiet (fail); try go_wp2)
        go_ret
        exact ⟨by first | rfl | (simp; done) | (simp [*]; done), by repeat (first | exact Drawn0.refl _ | apply Drawn0.step)⟩
      ·rw [if_neg c6] at H
       exact absurd H (by simp)
     ·rw [if_neg c5] at H
      exact absurd H (by simp)
    ·rw [if_neg c4] at H
     have c4b0 : decide (x5_1 < (l0.length : Int)) = false := decide_eq_false c4
     clear c4
     obtain rfl := Option.some.inj H
     go_wp2
     repeat (go_quiet (fail); try go_wp2)
     go_ret
     exact ⟨by first | rfl | (simp; done) | (simp [*]; done), by repeat (first | exact Drawn0.refl _ | apply Drawn0.step)⟩
 ·rw [if_neg c3] at H
  have c3b0 : ((l0.length : Int) == (l1.length : Int)) = false := beq_eq_false_iff_ne.mpr c3
  have c3b1 : ((l0.length : Int) != (l1.length : Int)) = true := bne_iff_ne.mpr c3
  have c3b2 : (l0.length == l1.length) = false := by first | simpa using c3 | (simp at c3 ⊢; omega)
  obtain rfl := Option.some.inj H
  go_enter Try.func31, Try.ntmps31
  go_wp2
  repeat (go_quiet (fail); try go_wp2)
  go_ret
  exact ⟨by first | rfl | (simp; done) | (simp [*]; done), by repeat (first | exact Drawn0.refl _ | apply Drawn0.step)⟩
end Go.Proofs.Ytjgbdicbdlollaa.B
namespace Go.Proofs.Ytjgbdicbdlollaa.B
open Go.RowKit Go.Proofs.YtjgbdicbdlollaaW.PrintWords Go.Proofs.YtjgbdicbdlollaaW.PrintLast Go.Proofs.YtjgbdicbdlollaaW.PrintMore
attribute [local go_sem] max2_int min2_int max_two min_two max_three min_three max_four min_four   -- for this text's walks alone
set_option linter.unusedVariables false
set_option linter.unusedSimpArgs false
def trishawlaw02_parts.f (k : Nat) (l0_0 : List Int) (a0_1 : Int) (l1_0 : List Int) (a1_1 : Int) : Option (Bool) := if a0_1 = a1_1 then ((trishawlaw02_same.f k l0_0 l1_0).bind fun t133 => (some t133)) else (some false)
theorem trishawlaw02_parts.mono : ∀ a0 a1 a2 a3 k, LeO (trishawlaw02_parts.f k a0 a1 a2 a3) (trishawlaw02_parts.f (k + 1) a0 a1 a2 a3) := by
  intro a0 a1 a2 a3 k
  unfold trishawlaw02_parts.f
  repeat' first
      | (with_reducible exact trishawlaw02_same.mono _ _ _)
      | (with_reducible exact LeO.refl _)
      | (with_reducible exact LeO.none _)
      | (with_reducible refine LeO.ite ?_ ?_)
      | (with_reducible refine LeO.bind ?_ (fun _ => ?_))
      | exact trishawlaw02_same.mono _ _ _
      | exact LeO.none _
      | refine LeO.ite ?_ ?_
      | refine LeO.bind ?_ (fun _ => ?_)
set_option maxHeartbeats 8000000 in
set_option maxRecDepth 100000 in
theorem trishawlaw02_parts.calls (k : Nat) (A0_0 : Option Addr) (c0_0 : Nat) (l0_0 : List Int) (a0_1 : Int) (A1_0 : Option Addr) (c1_0 : Nat) (l1_0 : List Int) (a1_1 : Int) (r : Bool) (w : World) (hr0_0 : Kd.C (Kd.int .i64) w A0_0 l0_0.length l0_0) (hc0_0 : l0_0.length ≤ c0_0) (hr1_0 : Kd.C (Kd.int .i64) w A1_0 l1_0.length l1_0) (hc1_0 : l1_0.length ≤ c1_0) (h : trishawlaw02_parts.f k l0_0 a0_1 l1_0 a1_1 = some r) :
  Calls Try.prog 19 #[.agg #[.slice A0_0 l0_0.length c0_0, .int .i64 a0_1], .agg #[.slice A1_0 l1_0.length c1_0, .int .i64 a1_1]] w fun e w' => e = .returned (.bool r) ∧ Below w.heap.size w w' := by
 have hu26 := Try.underlying26
 have HR0_0 := Aside0.mk hr0_0
 have HC0_0 := Aside0.mk hc0_0
 clear hr0_0 hc0_0
 have HR1_0 := Aside0.mk hr1_0
 have HC1_0 := Aside0.mk hc1_0
 clear hr1_0 hc1_0
 have HB := Aside0.mk (Below.refl w.heap.size w)
 have H : (if a0_1 = a1_1 then ((trishawlaw02_same.f k l0_0 l1_0).bind fun t133 => (some t133)) else (some false)) = some r := h
 clear h
 by_cases c3 : a0_1 = a1_1
 ·rw [if_pos c3] at H
  have c3b0 : (a0_1 == a1_1) = true := beq_iff_eq.mpr c3
  have c3b1 : (a0_1 != a1_1) = false := bne_eq_false_iff_eq.mpr c3
  clear c3
  replace H := Option.bind_eq_some_iff.mp H
  obtain ⟨t133, A40, H⟩ := H
  replace H : (some t133) = some r := H
  have A4 := Aside0.mk A40
  clear A40
  obtain rfl := Option.some.inj H
  go_enter Try.func19, Try.ntmps19
  go_wp2_with (first | ((with_reducible refine gate_dst (N := 2) rfl ?_); refine box_event ?hg (N := 2) ?hd (cs := #[.slice A0_0 l0_0.length c0_0, .int .i64 a0_1]) (t := 26) ?hr ?_; (case hd => rfl); (case hg => rfl); (case hr => first | (go_simp; done) | (go_simp; rfl)); intro gb131 hg w5 hbox hb; have n0_ := Aside0.mk (below_step (by repeat (first | (with_reducible first | exact HB.out | apply below_alloc | apply pw_below_drewN | apply below_drew1) | exact HB.out)) hb); have n1_ := Aside0.mk (hbox); have n2_ := Aside0.mk ((by rw [hg]; exact (below_size (by repeat (first | (with_reducible first | exact HB.out | apply below_alloc | apply pw_below_drewN | apply below_drew1) | exact HB.out))) : w.heap.size ≤ gb131)); have n3_ := Aside0.mk ((by rw [hg]; exact (below_size (by repeat (first | (with_reducible first | exact HB.out | apply below_alloc | apply pw_below_drewN | apply below_drew1) | exact HB.out))) : w.heap.size ≤ gb131)); clear HB; have HB := n0_; have BK131 := n1_; have GW131 := n2_; have GE131 := n3_; clear n0_ n1_ n2_ n3_; clear hb hbox hg) | ((with_reducible refine gate_dst (N := 3) rfl ?_); refine box_event ?hg (N := 3) ?hd (cs := #[.slice A1_0 l1_0.length c1_0, .int .i64 a1_1]) (t := 26) ?hr ?_; (case hd => rfl); (case hg => rfl); (case hr => first | (go_simp; done) | (go_simp; rfl)); intro gb132 hg w6 hbox hb; have n0_ := Aside0.mk (blk_below (g := gb131) (o := .cells #[.slice A0_0 l0_0.length c0_0, .int .i64 a0_1] 26 (0, 0)) (by (with_reducible repeat (first | refine blk_drewN ?_ _ | refine blk_drew ?_ | refine blk_alloc ?_ _)); exact BK131.out) hb); have n1_ := Aside0.mk (below_step (by repeat (first | (with_reducible first | exact HB.out | apply below_alloc | apply pw_below_drewN | apply below_drew1 | refine below_set ?_ GE131.out) | exact HB.out)) hb); have n2_ := Aside0.mk (hbox); have n3_ := Aside0.mk ((by rw [hg]; exact (below_size (by repeat (first | (with_reducible first | exact HB.out | apply below_alloc | apply pw_below_drewN | apply below_drew1 | refine below_set ?_ GE131.out) | exact HB.out))) : w.heap.size ≤ gb132)); have n4_ := Aside0.mk ((by rw [hg]; exact (below_size (by repeat (first | (with_reducible first | exact HB.out | apply below_alloc | apply pw_below_drewN | apply below_drew1 | refine below_set ?_ GE131.out) | exact HB.out))) : w.heap.size ≤ gb132)); have n5_ := Aside0.mk ((by rw [hg]; exact Nat.ne_of_lt (blk_lt (g := gb131) (o := .cells #[.slice A0_0 l0_0.length c0_0, .int .i64 a0_1] 26 (0, 0)) (by (with_reducible repeat (first | refine blk_drewN ?_ _ | refine blk_drew ?_ | refine blk_alloc ?_ _)); exact BK131.out)) : gb131 ≠ gb132)); have n6_ := Aside0.mk ((by rw [hg]; exact Nat.ne_of_gt (blk_lt (g := gb131) (o := .cells #[.slice A0_0 l0_0.length c0_0, .int .i64 a0_1] 26 (0, 0)) (by (with_reducible repeat (first | refine blk_drewN ?_ _ | refine blk_drew ?_ | refine blk_alloc ?_ _)); exact BK131.out)) : gb132 ≠ gb131)); clear BK131; clear HB; have BK131 := n0_; have HB := n1_; have BK132 := n2_; have GW132 := n3_; have GE132 := n4_; have NB131_132 := n5_; have NB132_131 := n6_; clear n0_ n1_ n2_ n3_ n4_ n5_ n6_; clear hb hbox hg; have hnb7 := NB131_132.out; have hnc7 := NB132_131.out; have hcz8_0 : w6.cell? ⟨gb131, 0, none⟩ = some (.slice A0_0 l0_0.length c0_0) := (blk_cell BK131.out 0).trans rfl; have hcz8_1 : w6.cell? ⟨gb131, 1, none⟩ = some (.int .i64 a0_1) := (blk_cell BK131.out 1).trans rfl; have hfz8_0 := blk_frozen BK131.out 0; have hfz8_1 := blk_frozen BK131.out 1; have hcz9_0 : w6.cell? ⟨gb132, 0, none⟩ = some (.slice A1_0 l1_0.length c1_0) := (blk_cell BK132.out 0).trans rfl; have hcz9_1 : w6.cell? ⟨gb132, 1, none⟩ = some (.int .i64 a1_1) := (blk_cell BK132.out 1).trans rfl; have hfz9_0 := blk_frozen BK132.out 0; have hfz9_1 := blk_frozen BK132.out 1) | (go_at_call 31; (with_reducible refine (trishawlaw02_same.calls k _ _ l0_0 _ _ l1_0 t133 _ ?side1 ?side2 ?side3 ?side4 A4.out).mono ?_); (case side1 => repeat (first | exact (Kd.C_below HR0_0.out HB.out) | (with_reducible refine Kd.C_alloc ?_ _) | (with_reducible refine Kd.C_drewN ?_ _) | (with_reducible refine Kd.C_drew ?_))); (case side2 => exact HC0_0.out); (case side3 => repeat (first | exact (Kd.C_below HR1_0.out HB.out) | (with_reducible refine Kd.C_alloc ?_ _) | (with_reducible refine Kd.C_drewN ?_ _) | (with_reducible refine Kd.C_drew ?_))); (case side4 => exact HC1_0.out); rintro e w' ⟨rfl, ⟨nd, rfl⟩⟩))
  go_ret
  exact ⟨by first | rfl | (simp [errW_none, errW_some] <;> rfl) | (simp [*, errW_none, errW_some] <;> rfl), by repeat (first | (with_reducible first | exact HB.out | apply below_alloc | apply pw_below_drewN | apply below_drew1 | refine below_set ?_ GE131.out | refine below_set ?_ GE132.out) | exact HB.out)⟩
 ·rw [if_neg c3] at H
  have c3b0 : (a0_1 == a1_1) = false := beq_eq_false_iff_ne.mpr c3
  have c3b1 : (a0_1 != a1_1) = true := bne_iff_ne.mpr c3
  obtain rfl := Option.some.inj H
  go_enter Try.func19, Try.ntmps19
  go_wp2_with (first | ((with_reducible refine gate_dst (N := 2) rfl ?_); refine box_event ?hg (N := 2) ?hd (cs := #[.slice A0_0 l0_0.length c0_0, .int .i64 a0_1]) (t := 26) ?hr ?_; (case hd => rfl); (case hg => rfl); (case hr => first | (go_simp; done) | (go_simp; rfl)); intro gb131 hg w10 hbox hb; have n0_ := Aside0.mk (below_step (by repeat (first | (with_reducible first | exact HB.out | apply below_alloc | apply pw_below_drewN | apply below_drew1) | exact HB.out)) hb); have n1_ := Aside0.mk (hbox); have n2_ := Aside0.mk ((by rw [hg]; exact (below_size (by repeat (first | (with_reducible first | exact HB.out | apply below_alloc | apply pw_below_drewN | apply below_drew1) | exact HB.out))) : w.heap.size ≤ gb131)); have n3_ := Aside0.mk ((by rw [hg]; exact (below_size (by repeat (first | (with_reducible first | exact HB.out | apply below_alloc | apply pw_below_drewN | apply below_drew1) | exact HB.out))) : w.heap.size ≤ gb131)); clear HB; have HB := n0_; have BK131 := n1_; have GW131 := n2_; have GE131 := n3_; clear n0_ n1_ n2_ n3_; clear hb hbox hg) | ((with_reducible refine gate_dst (N := 3) rfl ?_); refine box_event ?hg (N := 3) ?hd (cs := #[.slice A1_0 l1_0.length c1_0, .int .i64 a1_1]) (t := 26) ?hr ?_; (case hd => rfl); (case hg => rfl); (case hr => first | (go_simp; done) | (go_simp; rfl)); intro gb132 hg w11 hbox hb; have n0_ := Aside0.mk (blk_below (g := gb131) (o := .cells #[.slice A0_0 l0_0.length c0_0, .int .i64 a0_1] 26 (0, 0)) (by (with_reducible repeat (first | refine blk_drewN ?_ _ | refine blk_drew ?_ | refine blk_alloc ?_ _)); exact BK131.out) hb); have n1_ := Aside0.mk (below_step (by repeat (first | (with_reducible first | exact HB.out | apply below_alloc | apply pw_below_drewN | apply below_drew1 | refine below_set ?_ GE131.out) | exact HB.out)) hb); have n2_ := Aside0.mk (hbox); have n3_ := Aside0.mk ((by rw [hg]; exact (below_size (by repeat (first | (with_reducible first | exact HB.out | apply below_alloc | apply pw_below_drewN | apply below_drew1 | refine below_set ?_ GE131.out) | exact HB.out))) : w.heap.size ≤ gb132)); have n4_ := Aside0.mk ((by rw [hg]; exact (below_size (by repeat (first | (with_reducible first | exact HB.out | apply below_alloc | apply pw_below_drewN | apply below_drew1 | refine below_set ?_ GE131.out) | exact HB.out))) : w.heap.size ≤ gb132)); have n5_ := Aside0.mk ((by rw [hg]; exact Nat.ne_of_lt (blk_lt (g := gb131) (o := .cells #[.slice A0_0 l0_0.length c0_0, .int .i64 a0_1] 26 (0, 0)) (by (with_reducible repeat (first | refine blk_drewN ?_ _ | refine blk_drew ?_ | refine blk_alloc ?_ _)); exact BK131.out)) : gb131 ≠ gb132)); have n6_ := Aside0.mk ((by rw [hg]; exact Nat.ne_of_gt (blk_lt (g := gb131) (o := .cells #[.slice A0_0 l0_0.length c0_0, .int .i64 a0_1] 26 (0, 0)) (by (with_reducible repeat (first | refine blk_drewN ?_ _ | refine blk_drew ?_ | refine blk_alloc ?_ _)); exact BK131.out)) : gb132 ≠ gb131)); clear BK131; clear HB; have BK131 := n0_; have HB := n1_; have BK132 := n2_; have GW132 := n3_; have GE132 := n4_; have NB131_132 := n5_; have NB132_131 := n6_; clear n0_ n1_ n2_ n3_ n4_ n5_ n6_; clear hb hbox hg; have hnb12 := NB131_132.out; have hnc12 := NB132_131.out; have hcz13_0 : w11.cell? ⟨gb131, 0, none⟩ = some (.slice A0_0 l0_0.length c0_0) := (blk_cell BK131.out 0).trans rfl; have hcz13_1 : w11.cell? ⟨gb131, 1, none⟩ = some (.int .i64 a0_1) := (blk_cell BK131.out 1).trans rfl; have hfz13_0 := blk_frozen BK131.out 0; have hfz13_1 := blk_frozen BK131.out 1; have hcz14_0 : w11.cell? ⟨gb132, 0, none⟩ = some (.slice A1_0 l1_0.length c1_0) := (blk_cell BK132.out 0).trans rfl; have hcz14_1 : w11.cell? ⟨gb132, 1, none⟩ = some (.int .i64 a1_1) := (blk_cell BK132.out 1).trans rfl; have hfz14_0 := blk_frozen BK132.out 0; have hfz14_1 := blk_frozen BK132.out 1))
  go_ret
  exact ⟨by first | rfl | (simp [errW_none, errW_some] <;> rfl) | (simp [*, errW_none, errW_some] <;> rfl), by repeat (first | (with_reducible first | exact HB.out | apply below_alloc | apply pw_below_drewN | apply below_drew1 | refine below_set ?_ GE131.out | refine below_set ?_ GE132.out) | exact HB.out)⟩
def trishawlaw02_two.f  : Option ((List (List Int)) × (List (List Int))) := some ((([(([1, 2] : List Int)), (([1, 2] : List Int))] : List (List Int))), (([(([1, 2] : List Int)), (([2, 2] : List Int))] : List (List Int))))
set_option maxHeartbeats 8000000 in
set_option maxRecDepth 100000 in
theorem trishawlaw02_two.calls  (r1 : List (List Int)) (r2 : List (List Int)) (w : World) (h : trishawlaw02_two.f  = some (r1, r2)) :
  Calls Try.prog 47 #[] w fun e w' => ∃ v0_ v1_ : Value, e = .returned (.agg #[v0_, v1_]) ∧ Kd.N (Kd.slice 3 (Kd.int .i64)) 24 w' w.heap.size (fun k_ => (w.heap.size ≤ k_) ∧ some k_ ≠ (v1_ : Value).ownBlock) v0_ r1 ∧ Kd.N (Kd.slice 3 (Kd.int .i64)) 24 w' w.heap.size (fun k_ => (w.heap.size ≤ k_) ∧ some k_ ≠ (v0_ : Value).ownBlock) v1_ r2 ∧ Below w.heap.size w w' := by
 have hu41 := Try.underlying41
 have HB := Aside0.mk (Below.refl w.heap.size w)
 have H : (some ((([(([1, 2] : List Int)), (([1, 2] : List Int))] : List (List Int))), (([(([1, 2] : List Int)), (([2, 2] : List Int))] : List (List Int))))) = some (r1, r2) := h
 clear h
 obtain ⟨y135, hy135⟩ : ∃ y_ : List Int, y_ = (([1, 2] : List Int)) := ⟨_, rfl⟩
 replace H : (some ((([y135, (([1, 2] : List Int))] : List (List Int))), (([(([1, 2] : List Int)), (([2, 2] : List Int))] : List (List Int))))) = some (r1, r2) := by first | (rw [hy135]; with_reducible exact H) | (have H2_ := (Option.bind_some _ _).symm.trans H; rw [hy135]; with_reducible exact H2_) | (have H2_ := (Option.bind_some _ _).symm.trans H; with_reducible exact H2_) | with_reducible exact H | (rw [hy135]; exact H) | exact H
 have Ny135 := Aside0.mk hy135
 clear hy135
 obtain ⟨y138, hy138⟩ : ∃ y_ : List Int, y_ = (([1, 2] : List Int)) := ⟨_, rfl⟩
 replace H : (some ((([y135, y138] : List (List Int))), (([(([1, 2] : List Int)), (([2, 2] : List Int))] : List (List Int))))) = some (r1, r2) := by first | (rw [hy138]; with_reducible exact H) | (have H2_ := (Option.bind_some _ _).symm.trans H; rw [hy138]; with_reducible exact H2_) | (have H2_ := (Option.bind_some _ _).symm.trans H; with_reducible exact H2_) | with_reducible exact H | (rw [hy138]; exact H) | exact H
 have Ny138 := Aside0.mk hy138
 clear hy138
 obtain ⟨y141, hy141⟩ : ∃ y_ : List (List Int), y_ = (([y135, y138] : List (List Int))) := ⟨_, rfl⟩
 replace H : (some (y141, (([(([1, 2] : List Int)), (([2, 2] : List Int))] : List (List Int))))) = some (r1, r2) := by first | (rw [hy141]; with_reducible exact H) | (have H2_ := (Option.bind_some _ _).symm.trans H; rw [hy141]; with_reducible exact H2_) | (have H2_ := (Option.bind_some _ _).symm.trans H; with_reducible exact H2_) | with_reducible exact H | (rw [hy141]; exact H) | exact H
 have Ny141 := Aside0.mk hy141
 clear hy141
 obtain ⟨y144, hy144⟩ : ∃ y_ : List Int, y_ = (([1, 2] : List Int)) := ⟨_, rfl⟩
 replace H : (some (y141, (([y144, (([2, 2] : List Int))] : List (List Int))))) = some (r1, r2) := by first | (rw [hy144]; with_reducible exact H) | (have H2_ := (Option.bind_some _ _).symm.trans H; rw [hy144]; with_reducible exact H2_) | (have H2_ := (Option.bind_some _ _).symm.trans H; with_reducible exact H2_) | with_reducible exact H | (rw [hy144]; exact H) | exact H
 have Ny144 := Aside0.mk hy144
 clear hy144
 obtain ⟨y147, hy147⟩ : ∃ y_ : List Int, y_ = (([2, 2] : List Int)) := ⟨_, rfl⟩
 replace H : (some (y141, (([y144, y147] : List (List Int))))) = some (r1, r2) := by first | (rw [hy147]; with_reducible exact H) | (have H2_ := (Option.bind_some _ _).symm.trans H; rw [hy147]; with_reducible exact H2_) | (have H2_ := (Option.bind_some _ _).symm.trans H; with_reducible exact H2_) | with_reducible exact H | (rw [hy147]; exact H) | exact H
 have Ny147 := Aside0.mk hy147
 clear hy147
 obtain ⟨y150, hy150⟩ : ∃ y_ : List (List Int), y_ = (([y144, y147] : List (List Int))) := ⟨_, rfl⟩
 replace H : (some (y141, y150)) = some (r1, r2) := by first | (rw [hy150]; with_reducible exact H) | (have H2_ := (Option.bind_some _ _).symm.trans H; rw [hy150]; with_reducible exact H2_) | (have H2_ := (Option.bind_some _ _).symm.trans H; with_reducible exact H2_) | with_reducible exact H | (rw [hy150]; exact H) | exact H
 have Ny150 := Aside0.mk hy150
 clear hy150
 simp only [Option.some.injEq, Prod.mk.injEq] at H
 obtain ⟨rfl, rfl⟩ := H
 go_enter Try.func47, Try.ntmps47
 go_wp2_with (first | ((with_reducible refine gate_dst (N := 0) rfl ?_); refine box_event ?hg (N := 0) ?hd (cs := #[.slice none 0 0, .slice none 0 0]) (t := 41) ?hr ?_; (case hd => rfl); (case hg => rfl); (case hr => first | (go_simp; done) | (go_simp; rfl)); intro gb134 hg w1 hbox hb; have n0_ := Aside0.mk (below_step (by repeat (first | (with_reducible first | exact HB.out | apply below_alloc | apply pw_below_drewN | apply below_drew1) | exact HB.out)) hb); have n1_ := Aside0.mk (hbox); have n2_ := Aside0.mk ((by rw [hg]; exact (below_size (by repeat (first | (with_reducible first | exact HB.out | apply below_alloc | apply pw_below_drewN | apply below_drew1) | exact HB.out))) : w.heap.size ≤ gb134)); have n3_ := Aside0.mk ((by rw [hg]; exact (below_size (by repeat (first | (with_reducible first | exact HB.out | apply below_alloc | apply pw_below_drewN | apply below_drew1) | exact HB.out))) : w.heap.size ≤ gb134)); clear HB; have HB := n0_; have BK134 := n1_; have GW134 := n2_; have GE134 := n3_; clear n0_ n1_ n2_ n3_; clear hb hbox hg) | ((with_reducible refine gate_dst (N := 1) rfl ?_); refine Kd.R_lit (Kd.int .i64) _ 3 ?hg (N := 1) ?hd (xs := ([1, 2] : List Int)) (inner := [.int .i64 1, .int .i64 2]) (ok := fun _ => True) (okp := fun _ => True) ?hr ?hp (fun _ hk => hk) trivial (Below.refl _ _) (Nat.le_refl _) (by simp) ?_; (case hd => rfl); (case hg => rfl); (case hr => first | (go_simp; done) | (go_simp; rfl)); (case hp => exact (Reps.one (show Kd.M (Kd.int .i64) _ _ _ 1 [.int .i64 1] from rfl) (Reps.one (show Kd.M (Kd.int .i64) _ _ _ 2 [.int .i64 2] from rfl) (Reps.none _ _)))); intro v136 w2 ho3 hb hg_ hnew_; clear hg_ hnew_; (first | rw [← Ny135.out] at ho3 | (simp only [Int.reduceToNat] at ho3; rw [← Ny135.out] at ho3)); have n0_ := Aside0.mk (Kd.R_lower (Kd.R_newM (M := fun k_ => (w.heap.size ≤ k_)) ho3 (below_size (by repeat (first | (with_reducible first | exact HB.out | apply below_alloc | apply pw_below_drewN | apply below_drew1 | refine below_set ?_ GE134.out) | exact HB.out))) (fun k_ h_ => h_)) (below_size (by repeat (first | (with_reducible first | exact HB.out | apply below_alloc | apply pw_below_drewN | apply below_drew1 | refine below_set ?_ GE134.out) | exact HB.out)))); have n1_ := Aside0.mk (blk_below (g := gb134) (o := .cells #[.slice none 0 0, .slice none 0 0] 41 (0, 0)) (by (with_reducible repeat (first | refine blk_drewN ?_ _ | refine blk_drew ?_ | refine blk_alloc ?_ _)); exact BK134.out) hb); have n2_ := Aside0.mk (below_step (by repeat (first | (with_reducible first | exact HB.out | apply below_alloc | apply pw_below_drewN | apply below_drew1 | refine below_set ?_ GE134.out) | exact HB.out)) hb); clear BK134; clear HB; have HO137 := n0_; have BK134 := n1_; have HB := n2_; clear n0_ n1_ n2_; clear hb ho3) | ((with_reducible refine gate_dst (N := 2) rfl ?_); refine Kd.R_lit (Kd.int .i64) _ 3 ?hg (N := 2) ?hd (xs := ([1, 2] : List Int)) (inner := [.int .i64 1, .int .i64 2]) (ok := fun _ => True) (okp := fun _ => True) ?hr ?hp (fun _ hk => hk) trivial (Below.refl _ _) (Nat.le_refl _) (by simp) ?_; (case hd => rfl); (case hg => rfl); (case hr => first | (go_simp; done) | (go_simp; rfl)); (case hp => exact (Reps.one (show Kd.M (Kd.int .i64) _ _ _ 1 [.int .i64 1] from rfl) (Reps.one (show Kd.M (Kd.int .i64) _ _ _ 2 [.int .i64 2] from rfl) (Reps.none _ _)))); intro v139 w4 ho5 hb hg_ hnew_; clear hg_ hnew_; (first | rw [← Ny138.out] at ho5 | (simp only [Int.reduceToNat] at ho5; rw [← Ny138.out] at ho5)); have n0_ := Aside0.mk (Kd.R_elder' (by (with_reducible repeat (first | apply Kd.R_alloc | apply Kd.R_drewN | apply Kd.R_drew)); exact HO137.out) (Kd.R_base ho5) hb); have n1_ := Aside0.mk (Kd.R_lower (Kd.R_new' (Kd.R_newM (M := fun k_ => (w.heap.size ≤ k_)) ho5 (below_size (by repeat (first | (with_reducible first | exact HB.out | apply below_alloc | apply pw_below_drewN | apply below_drew1 | refine below_set ?_ GE134.out) | exact HB.out))) (fun k_ h_ => h_)) (Kd.R_lt (by (with_reducible repeat (first | apply Kd.R_alloc | apply Kd.R_drewN | apply Kd.R_drew)); exact HO137.out))) (below_size (by repeat (first | (with_reducible first | exact HB.out | apply below_alloc | apply pw_below_drewN | apply below_drew1 | refine below_set ?_ GE134.out) | exact HB.out)))); have n2_ := Aside0.mk (blk_below (g := gb134) (o := .cells #[.slice none 0 0, .slice none 0 0] 41 (0, 0)) (by (with_reducible repeat (first | refine blk_drewN ?_ _ | refine blk_drew ?_ | refine blk_alloc ?_ _)); exact BK134.out) hb); have n3_ := Aside0.mk (below_step (by repeat (first | (with_reducible first | exact HB.out | apply below_alloc | apply pw_below_drewN | apply below_drew1 | refine below_set ?_ GE134.out) | exact HB.out)) hb); clear HO137; clear BK134; clear HB; have HO137 := n0_; have HO140 := n1_; have BK134 := n2_; have HB := n3_; clear n0_ n1_ n2_ n3_; clear hb ho5; obtain ⟨Ao6, co6, eo6⟩ := Kd.R_slice HO137.out; subst eo6; obtain ⟨Ao7, co7, eo7⟩ := Kd.R_slice HO140.out; subst eo7) | ((with_reducible refine gate_dst (N := 3) rfl ?_); refine Kd.N_lit (Kd.slice 3 (Kd.int .i64)) _ 24 ?hg (N' := 3) ?hd (xs := ([y135, y138] : List (List Int))) (inner := [.slice Ao6 y135.length co6, .slice Ao7 y138.length co7]) (ok := (fun k_ => (w.heap.size ≤ k_) ∧ k_ ≠ gb134)) (okp := (fun k_ => (w.heap.size ≤ k_) ∧ k_ ≠ gb134)) ?hr ?hp (fun _ hk => hk) ((show ∀ k_, w4.heap.size ≤ k_ → (fun k_ => (w.heap.size ≤ k_) ∧ k_ ≠ gb134) k_ from fun k_ hk => ⟨(Nat.le_trans (below_size (by repeat (first | (with_reducible first | exact HB.out | apply below_alloc | apply pw_below_drewN | apply below_drew1 | refine below_set ?_ GE134.out) | exact HB.out))) hk), Kd.freshB (g := gb134) (o := .cells #[.slice none 0 0, .slice none 0 0] 41 (0, 0)) (by (with_reducible repeat (first | refine blk_drewN ?_ _ | refine blk_drew ?_ | refine blk_alloc ?_ _)); exact BK134.out) k_ hk⟩) _ (Nat.le_refl _)) (Below.refl _ _) (Nat.le_refl _) (by simp) ?_; (case hd => rfl); (case hg => rfl); (case hr => first | (go_simp; done) | (go_simp; rfl)); (case hp => exact (Reps.one (show Kd.FK (Kd.slice 3 (Kd.int .i64)) _ _ y135 [.slice Ao6 y135.length co6] from (Kd.FK_slice_mk (Kd.R_reads' (Kd.R_mono (ok' := (fun k_ => (w.heap.size ≤ k_) ∧ k_ ≠ gb134)) (Kd.R_types (HO137.out) BK134.out (by decide)) (fun k_ hk => ⟨hk.1.1.1, hk.2⟩))).2.1 (Kd.R_F (Kd.R_mono (ok' := (fun k_ => (w.heap.size ≤ k_) ∧ k_ ≠ gb134)) (Kd.R_types (HO137.out) BK134.out (by decide)) (fun k_ hk => ⟨hk.1.1.1, hk.2⟩))))) (Reps.one (show Kd.FK (Kd.slice 3 (Kd.int .i64)) _ _ y138 [.slice Ao7 y138.length co7] from (Kd.FK_slice_mk (Kd.R_reads' (Kd.R_mono (ok' := (fun k_ => (w.heap.size ≤ k_) ∧ k_ ≠ gb134)) (Kd.R_types (HO140.out) BK134.out (by decide)) (fun k_ hk => ⟨hk.1.1.1, hk.2⟩))).2.1 (Kd.R_F (Kd.R_mono (ok' := (fun k_ => (w.heap.size ≤ k_) ∧ k_ ≠ gb134)) (Kd.R_types (HO140.out) BK134.out (by decide)) (fun k_ hk => ⟨hk.1.1.1, hk.2⟩))))) (Reps.none _ _)))); intro v142 w8 ho9 hb hg_ hnew_; clear hg_ hnew_; (first | rw [← Ny141.out] at ho9 | (simp only [Int.reduceToNat] at ho9; rw [← Ny141.out] at ho9)); have n0_ := Aside0.mk (Kd.N_lower ho9 (below_size (by repeat (first | (with_reducible first | exact HB.out | apply below_alloc | apply pw_below_drewN | apply below_drew1 | refine below_set ?_ GE134.out) | exact HB.out)))); have n1_ := Aside0.mk (blk_below (g := gb134) (o := .cells #[.slice none 0 0, .slice none 0 0] 41 (0, 0)) (by (with_reducible repeat (first | refine blk_drewN ?_ _ | refine blk_drew ?_ | refine blk_alloc ?_ _)); exact BK134.out) hb); have n2_ := Aside0.mk (below_step (by repeat (first | (with_reducible first | exact HB.out | apply below_alloc | apply pw_below_drewN | apply below_drew1 | refine below_set ?_ GE134.out) | exact HB.out)) hb); clear BK134; clear HB; clear HO137; clear HO140; have HO143 := n0_; have BK134 := n1_; have HB := n2_; clear n0_ n1_ n2_; clear hb ho9) | ((with_reducible refine gate_dst (N := 4) rfl ?_); refine Kd.R_lit (Kd.int .i64) _ 3 ?hg (N := 4) ?hd (xs := ([1, 2] : List Int)) (inner := [.int .i64 1, .int .i64 2]) (ok := fun _ => True) (okp := fun _ => True) ?hr ?hp (fun _ hk => hk) trivial (Below.refl _ _) (Nat.le_refl _) (by simp) ?_; (case hd => rfl); (case hg => rfl); (case hr => first | (go_simp; done) | (go_simp; rfl)); (case hp => exact (Reps.one (show Kd.M (Kd.int .i64) _ _ _ 1 [.int .i64 1] from rfl) (Reps.one (show Kd.M (Kd.int .i64) _ _ _ 2 [.int .i64 2] from rfl) (Reps.none _ _)))); intro v145 w10 ho11 hb hg_ hnew_; clear hg_ hnew_; (first | rw [← Ny144.out] at ho11 | (simp only [Int.reduceToNat] at ho11; rw [← Ny144.out] at ho11)); have n0_ := Aside0.mk (Kd.N_elder' (by (with_reducible repeat (first | apply Kd.N_alloc | apply Kd.N_drewN | apply Kd.N_drew)); exact HO143.out) (Kd.R_base ho11) hb); have n1_ := Aside0.mk (Kd.R_lower (Kd.R_newM (M := fun k_ => (w.heap.size ≤ k_)) ho11 (below_size (by repeat (first | (with_reducible first | exact HB.out | apply below_alloc | apply pw_below_drewN | apply below_drew1 | refine below_set ?_ GE134.out) | exact HB.out))) (fun k_ h_ => h_)) (below_size (by repeat (first | (with_reducible first | exact HB.out | apply below_alloc | apply pw_below_drewN | apply below_drew1 | refine below_set ?_ GE134.out) | exact HB.out)))); have n2_ := Aside0.mk (blk_below (g := gb134) (o := .cells #[.slice none 0 0, .slice none 0 0] 41 (0, 0)) (by (with_reducible repeat (first | refine blk_drewN ?_ _ | refine blk_drew ?_ | refine blk_alloc ?_ _)); exact BK134.out) hb); have n3_ := Aside0.mk (below_step (by repeat (first | (with_reducible first | exact HB.out | apply below_alloc | apply pw_below_drewN | apply below_drew1 | refine below_set ?_ GE134.out) | exact HB.out)) hb); clear HO143; clear BK134; clear HB; have HO143 := n0_; have HO146 := n1_; have BK134 := n2_; have HB := n3_; clear n0_ n1_ n2_ n3_; clear hb ho11) | ((with_reducible refine gate_dst (N := 5) rfl ?_); refine Kd.R_lit (Kd.int .i64) _ 3 ?hg (N := 5) ?hd (xs := ([2, 2] : List Int)) (inner := [.int .i64 2, .int .i64 2]) (ok := fun _ => True) (okp := fun _ => True) ?hr ?hp (fun _ hk => hk) trivial (Below.refl _ _) (Nat.le_refl _) (by simp) ?_; (case hd => rfl); (case hg => rfl); (case hr => first | (go_simp; done) | (go_simp; rfl)); (case hp => exact (Reps.one (show Kd.M (Kd.int .i64) _ _ _ 2 [.int .i64 2] from rfl) (Reps.one (show Kd.M (Kd.int .i64) _ _ _ 2 [.int .i64 2] from rfl) (Reps.none _ _)))); intro v148 w12 ho13 hb hg_ hnew_; clear hg_ hnew_; (first | rw [← Ny147.out] at ho13 | (simp only [Int.reduceToNat] at ho13; rw [← Ny147.out] at ho13)); have n0_ := Aside0.mk (Kd.N_elder' (by (with_reducible repeat (first | apply Kd.N_alloc | apply Kd.N_drewN | apply Kd.N_drew)); exact HO143.out) (Kd.R_base ho13) hb); have n1_ := Aside0.mk (Kd.R_elder' (by (with_reducible repeat (first | apply Kd.R_alloc | apply Kd.R_drewN | apply Kd.R_drew)); exact HO146.out) (Kd.R_base ho13) hb); have n2_ := Aside0.mk (Kd.R_lower (Kd.R_new' (Kd.R_newM (M := fun k_ => (w.heap.size ≤ k_)) ho13 (below_size (by repeat (first | (with_reducible first | exact HB.out | apply below_alloc | apply pw_below_drewN | apply below_drew1 | refine below_set ?_ GE134.out) | exact HB.out))) (fun k_ h_ => h_)) (Kd.R_lt (by (with_reducible repeat (first | apply Kd.R_alloc | apply Kd.R_drewN | apply Kd.R_drew)); exact HO146.out))) (below_size (by repeat (first | (with_reducible first | exact HB.out | apply below_alloc | apply pw_below_drewN | apply below_drew1 | refine below_set ?_ GE134.out) | exact HB.out)))); have n3_ := Aside0.mk (blk_below (g := gb134) (o := .cells #[.slice none 0 0, .slice none 0 0] 41 (0, 0)) (by (with_reducible repeat (first | refine blk_drewN ?_ _ | refine blk_drew ?_ | refine blk_alloc ?_ _)); exact BK134.out) hb); have n4_ := Aside0.mk (below_step (by repeat (first | (with_reducible first | exact HB.out | apply below_alloc | apply pw_below_drewN | apply below_drew1 | refine below_set ?_ GE134.out) | exact HB.out)) hb); clear HO143; clear HO146; clear BK134; clear HB; have HO143 := n0_; have HO146 := n1_; have HO149 := n2_; have BK134 := n3_; have HB := n4_; clear n0_ n1_ n2_ n3_ n4_; clear hb ho13; obtain ⟨Ao14, co14, eo14⟩ := Kd.R_slice HO146.out; subst eo14; obtain ⟨Ao15, co15, eo15⟩ := Kd.R_slice HO149.out; subst eo15) | ((with_reducible refine gate_dst (N := 6) rfl ?_); refine Kd.N_lit (Kd.slice 3 (Kd.int .i64)) _ 24 ?hg (N' := 6) ?hd (xs := ([y144, y147] : List (List Int))) (inner := [.slice Ao14 y144.length co14, .slice Ao15 y147.length co15]) (ok := (fun k_ => (w.heap.size ≤ k_) ∧ some k_ ≠ (v142 : Value).ownBlock ∧ k_ ≠ gb134)) (okp := (fun k_ => (w.heap.size ≤ k_) ∧ some k_ ≠ (v142 : Value).ownBlock ∧ k_ ≠ gb134)) ?hr ?hp (fun _ hk => hk) ((show ∀ k_, w12.heap.size ≤ k_ → (fun k_ => (w.heap.size ≤ k_) ∧ some k_ ≠ (v142 : Value).ownBlock ∧ k_ ≠ gb134) k_ from fun k_ hk => ⟨(Nat.le_trans (below_size (by repeat (first | (with_reducible first | exact HB.out | apply below_alloc | apply pw_below_drewN | apply below_drew1 | refine below_set ?_ GE134.out) | exact HB.out))) hk), Kd.fresh' (Kd.N_lt (by (with_reducible repeat (first | apply Kd.N_alloc | apply Kd.N_drewN | apply Kd.N_drew)); exact HO143.out)) k_ hk, Kd.freshB (g := gb134) (o := .cells #[.slice none 0 0, .slice none 0 0] 41 (0, 0)) (by (with_reducible repeat (first | refine blk_drewN ?_ _ | refine blk_drew ?_ | refine blk_alloc ?_ _)); exact BK134.out) k_ hk⟩) _ (Nat.le_refl _)) (Below.refl _ _) (Nat.le_refl _) (by simp) ?_; (case hd => rfl); (case hg => rfl); (case hr => first | (go_simp; done) | (go_simp; rfl)); (case hp => exact (Reps.one (show Kd.FK (Kd.slice 3 (Kd.int .i64)) _ _ y144 [.slice Ao14 y144.length co14] from (Kd.FK_slice_mk (Kd.R_reads' (Kd.R_mono (ok' := (fun k_ => (w.heap.size ≤ k_) ∧ some k_ ≠ (v142 : Value).ownBlock ∧ k_ ≠ gb134)) (Kd.R_types (Kd.R_apart' (HO146.out) (Kd.N_typed HO143.out) (by decide)) BK134.out (by decide)) (fun k_ hk => ⟨hk.1.1.1.1, ⟨hk.1.2, hk.2⟩⟩))).2.1 (Kd.R_F (Kd.R_mono (ok' := (fun k_ => (w.heap.size ≤ k_) ∧ some k_ ≠ (v142 : Value).ownBlock ∧ k_ ≠ gb134)) (Kd.R_types (Kd.R_apart' (HO146.out) (Kd.N_typed HO143.out) (by decide)) BK134.out (by decide)) (fun k_ hk => ⟨hk.1.1.1.1, ⟨hk.1.2, hk.2⟩⟩))))) (Reps.one (show Kd.FK (Kd.slice 3 (Kd.int .i64)) _ _ y147 [.slice Ao15 y147.length co15] from (Kd.FK_slice_mk (Kd.R_reads' (Kd.R_mono (ok' := (fun k_ => (w.heap.size ≤ k_) ∧ some k_ ≠ (v142 : Value).ownBlock ∧ k_ ≠ gb134)) (Kd.R_types (Kd.R_apart' (HO149.out) (Kd.N_typed HO143.out) (by decide)) BK134.out (by decide)) (fun k_ hk => ⟨hk.1.1.1.1, ⟨hk.1.2, hk.2⟩⟩))).2.1 (Kd.R_F (Kd.R_mono (ok' := (fun k_ => (w.heap.size ≤ k_) ∧ some k_ ≠ (v142 : Value).ownBlock ∧ k_ ≠ gb134)) (Kd.R_types (Kd.R_apart' (HO149.out) (Kd.N_typed HO143.out) (by decide)) BK134.out (by decide)) (fun k_ hk => ⟨hk.1.1.1.1, ⟨hk.1.2, hk.2⟩⟩))))) (Reps.none _ _)))); intro v151 w16 ho17 hb hg_ hnew_; clear hg_ hnew_; (first | rw [← Ny150.out] at ho17 | (simp only [Int.reduceToNat] at ho17; rw [← Ny150.out] at ho17)); have n0_ := Aside0.mk (Kd.N_elder' (by (with_reducible repeat (first | apply Kd.N_alloc | apply Kd.N_drewN | apply Kd.N_drew)); exact HO143.out) (Kd.N_base ho17) hb); have n1_ := Aside0.mk (Kd.N_lower ho17 (below_size (by repeat (first | (with_reducible first | exact HB.out | apply below_alloc | apply pw_below_drewN | apply below_drew1 | refine below_set ?_ GE134.out) | exact HB.out)))); have n2_ := Aside0.mk (blk_below (g := gb134) (o := .cells #[.slice none 0 0, .slice none 0 0] 41 (0, 0)) (by (with_reducible repeat (first | refine blk_drewN ?_ _ | refine blk_drew ?_ | refine blk_alloc ?_ _)); exact BK134.out) hb); have n3_ := Aside0.mk (below_step (by repeat (first | (with_reducible first | exact HB.out | apply below_alloc | apply pw_below_drewN | apply below_drew1 | refine below_set ?_ GE134.out) | exact HB.out)) hb); clear HO143; clear BK134; clear HB; clear HO146; clear HO149; have HO143 := n0_; have HO152 := n1_; have BK134 := n2_; have HB := n3_; clear n0_ n1_ n2_ n3_; clear hb ho17; obtain ⟨Ao18, co18, eo18⟩ := Kd.N_slice HO152.out; subst eo18; obtain ⟨Ao19, co19, eo19⟩ := Kd.N_slice HO143.out; subst eo19; have hcz20_0 : w16.cell? ⟨gb134, 0, none⟩ = some (.slice none 0 0) := (blk_cell BK134.out 0).trans rfl; have hcz20_1 : w16.cell? ⟨gb134, 1, none⟩ = some (.slice none 0 0) := (blk_cell BK134.out 1).trans rfl; have hfz20_0 := blk_frozen BK134.out 0; have hfz20_1 := blk_frozen BK134.out 1))
 refine bodyPost_ret (results_cell_row rfl _ _ gb134 41 #[.slice Ao19 y141.length co19, .slice Ao18 y150.length co18] (0, 0) _ rfl (by (with_reducible repeat (first | refine blk_drewN ?_ _ | refine blk_drew ?_ | refine blk_alloc ?_ _)); refine blk_put (cs := #[.slice Ao19 y141.length co19, .slice none 0 0]) ?_ 1 _ rfl; (with_reducible repeat (first | refine blk_drewN ?_ _ | refine blk_drew ?_ | refine blk_alloc ?_ _)); refine blk_put (cs := #[.slice none 0 0, .slice none 0 0]) ?_ 0 _ rfl; (with_reducible repeat (first | refine blk_drewN ?_ _ | refine blk_drew ?_ | refine blk_alloc ?_ _)); exact BK134.out) Try.underlying41 rfl (by kernel_rfl)) rfl ?_
 exact ⟨_, _, by first | rfl | (simp [errW_none, errW_some] <;> rfl) | (simp [*, errW_none, errW_some] <;> rfl), by (with_reducible repeat (first | apply Kd.N_alloc | apply Kd.N_drewN | apply Kd.N_drew)); exact Kd.N_mono (Kd.N_far (p := ⟨gb134, 1, none⟩) (Kd.N_far (p := ⟨gb134, 0, none⟩) (Kd.N_mono HO143.out (fun k_ hk => (⟨hk, hk.1.1.1.2⟩ : _ ∧ k_ ≠ gb134))) (fun _ hk => hk.2) (.slice Ao19 y141.length co19)) (fun _ hk => hk.2) (.slice Ao18 y150.length co18)) (fun _ hk => ⟨hk.1.1.1.1.1, hk.1.2⟩), by (with_reducible repeat (first | apply Kd.N_alloc | apply Kd.N_drewN | apply Kd.N_drew)); exact Kd.N_mono (Kd.N_far (p := ⟨gb134, 1, none⟩) (Kd.N_far (p := ⟨gb134, 0, none⟩) (Kd.N_mono HO152.out (fun k_ hk => (⟨hk, hk.2.2⟩ : _ ∧ k_ ≠ gb134))) (fun _ hk => hk.2) (.slice Ao19 y141.length co19)) (fun _ hk => hk.2) (.slice Ao18 y150.length co18)) (fun _ hk => ⟨hk.1.1, hk.1.2.1⟩), by repeat (first | (with_reducible first | exact HB.out | apply below_alloc | apply pw_below_drewN | apply below_drew1 | refine below_set ?_ GE134.out) | exact HB.out)⟩
end Go.Proofs.Ytjgbdicbdlollaa.B
namespace Go.Proofs.Ytjgbdicbdlollaa.B
open Go.RowKit Go.Proofs.YtjgbdicbdlollaaW.PrintWords Go.Proofs.YtjgbdicbdlollaaW.PrintLast Go.Proofs.YtjgbdicbdlollaaW.PrintMore
attribute [local go_sem] max2_int min2_int max_two min_two max_three min_three max_four min_four   -- for this text's walks alone
set_option linter.unusedVariables false
set_option linter.unusedSimpArgs false
def ratio_divisor.f : Nat → Int → Int → Option (Int)
  | 0, _, _ => none
  | k + 1, a0, a1 => if a1 = 0 then (some (mx a0 (wrap64 (-a0)))) else ((ratio_divisor.f k a1 (Int.tmod a0 a1)).bind fun t343 => (some t343))
theorem ratio_divisor.mono_l : ∀ k, (∀ y0 y1, LeO (ratio_divisor.f k y0 y1) (ratio_divisor.f (k + 1) y0 y1))
  | 0 => fun _ _ r h => by simp [ratio_divisor.f] at h
  | k + 1 => by
    have ih0 := ratio_divisor.mono_l k
    · intro y0 y1
      unfold ratio_divisor.f
      repeat' first
      | (with_reducible exact ih0 _ _)
      | (with_reducible exact LeO.refl _)
      | (with_reducible exact LeO.none _)
      | (with_reducible refine LeO.ite ?_ ?_)
      | (with_reducible refine LeO.bind ?_ (fun _ => ?_))
      | exact ih0 _ _
      | exact LeO.none _
      | refine LeO.ite ?_ ?_
      | refine LeO.bind ?_ (fun _ => ?_)
theorem ratio_divisor.mono : ∀ a0 a1 k, LeO (ratio_divisor.f k a0 a1) (ratio_divisor.f (k + 1) a0 a1) := by
  intro a0 a1 k
  have ih0 := ratio_divisor.mono_l k
  exact ih0 a0 a1
set_option maxHeartbeats 8000000 in
set_option maxRecDepth 100000 in
theorem ratio_divisor.calls (k : Nat) : ∀ (a0 : Int) (a1 : Int) (r : Int) (w : World) (h : ratio_divisor.f k a0 a1 = some r),
  Calls Try.prog 99 #[.int .i64 a0, .int .i64 a1] w fun e w' => e = .returned (.int .i64 r) ∧ Below w.heap.size w w' := by
 induction k using Nat.strongRecOn with
 | _ k ih =>
 intro a0 a1 r w h
 cases k with
 | zero => exact absurd h (by simp [ratio_divisor.f])
 | succ k =>
 simp only [ratio_divisor.f] at h
 have HB := Aside0.mk (Below.refl w.heap.size w)
 have H : (if a1 = 0 then (some (mx a0 (wrap64 (-a0)))) else ((ratio_divisor.f k a1 (Int.tmod a0 a1)).bind fun t343 => (some t343))) = some r := h
 clear h
 by_cases c3 : a1 = 0
 ·rw [if_pos c3] at H
  have c3b0 : (a1 == 0) = true := beq_iff_eq.mpr c3
  have c3b1 : (a1 != 0) = false := bne_eq_false_iff_eq.mpr c3
  clear c3
  obtain ⟨ji4, hji4⟩ : ∃ j_ : Int, (mx a0 (wrap64 (-a0))) = j_ := ⟨_, rfl⟩
  replace H : (some ji4) = some r := by first | (rw [hji4] at H; exact H) | (simp only [hji4] at H ⊢; exact H)
  have hji4_ : (if a0 < (wrap64 (-a0)) then (wrap64 (-a0)) else a0) = ji4 := hji4
  obtain rfl := Option.some.inj H
  go_enter Try.func99, Try.ntmps99
  go_wp2
  go_ret
  exact ⟨by first | rfl | (simp [errW_none, errW_some] <;> rfl) | (simp only [← hji4]; first | rfl | (simp [errW_none, errW_some] <;> rfl)) | (simp [*, errW_none, errW_some] <;> rfl), by repeat (first | (with_reducible first | exact HB.out | apply below_alloc | apply pw_below_drewN | apply below_drew1) | exact HB.out)⟩
 ·rw [if_neg c3] at H
  have c3b0 : (a1 == 0) = false := beq_eq_false_iff_ne.mpr c3
  have c3b1 : (a1 != 0) = true := bne_iff_ne.mpr c3
  replace H := Option.bind_eq_some_iff.mp H
  obtain ⟨t343, A50, H⟩ := H
  replace H : (some t343) = some r := H
  have A5 := Aside0.mk A50
  clear A50
  obtain rfl := Option.some.inj H
  go_enter Try.func99, Try.ntmps99
  go_wp2_with (first | ((with_reducible refine gate_callee (f := 99) rfl ?_); refine goesL_ (some 15) rfl rfl Try.func99 (by kernel_rfl) rfl #[.int .i64 a1, .int .i64 (Int.tmod a0 a1)] rfl (by (try simp only [List.map_toArray, List.map_cons, List.map_nil]); first | done | rfl | (simp only [List.length_drop, List.length_take]; rfl)) ?_; (with_reducible refine (ih k (by omega) a1 (Int.tmod a0 a1) t343 _ A5.out).mono ?_); rintro e w6 ⟨rfl, hb⟩; refine ⟨_, rfl, ?_⟩; have n0_ := Aside0.mk (below_step (by repeat (first | (with_reducible first | exact HB.out | apply below_alloc | apply pw_below_drewN | apply below_drew1) | exact HB.out)) hb); clear HB; have HB := n0_; clear n0_; (try clear hb); (try clear hb2); (try clear hk); (try clear hi)))
  go_ret
  exact ⟨by first | rfl | (simp [errW_none, errW_some] <;> rfl) | (simp [*, errW_none, errW_some] <;> rfl), by repeat (first | (with_reducible first | exact HB.out | apply below_alloc | apply pw_below_drewN | apply below_drew1) | exact HB.out)⟩
mutual
def ratio_Parts.l0 : Nat → List Int → Int → Int → List Int → Int → Int → Option (List Int × Int)
  | 0, _, _, _, _, _, _ => none
  | k + 1, x0, x1, x5, x12, x13, x14 => if x14 < x13 then (if 0 ≤ x14 then (if x14 < (x12.length : Int) then ((ratio_divisor.f k x5 (rd x12 x14)).bind fun t352 => (ratio_Parts.l0 k x0 x1 t352 x12 x13 (wrap64 (x14 + 1)))) else (none)) else (none)) else (if 0 ≤ (x0.length : Int) then (if ((x0.length : Int) : Int).toNat ≤ 35184372088832 then (ratio_Parts.l1 k x1 (mx x5 (wrap64 (-x5))) (List.replicate ((x0.length : Int) : Int).toNat 0) x0 (x0.length : Int) 0) else (none)) else (none))
def ratio_Parts.l1 : Nat → Int → Int → List Int → List Int → Int → Int → Option (List Int × Int)
  | 0, _, _, _, _, _, _ => none
  | k + 1, x1, x5, x8, x29, x30, x31 => if x31 < x30 then (if 0 ≤ x31 then (if x31 < (x29.length : Int) then (if x5 = 0 then (none) else (if x31 < (x8.length : Int) then (ratio_Parts.l1 k x1 x5 (x8.set (x31 : Int).toNat (wrap64 (Int.tdiv (rd x29 x31) x5))) x29 x30 (wrap64 (x31 + 1))) else (none))) else (none)) else (none)) else (if x5 = 0 then (none) else (some (x8, wrap64 (Int.tdiv x1 x5))))
end
def ratio_Parts.f (k : Nat) (l0 : List Int) (a1 : Int) : Option (List Int × Int) := ratio_Parts.l0 k l0 a1 a1 l0 (l0.length : Int) 0
theorem ratio_Parts.mono_l : ∀ k, (∀ y0 y1 y2 y3 y4 y5, LeO (ratio_Parts.l0 k y0 y1 y2 y3 y4 y5) (ratio_Parts.l0 (k + 1) y0 y1 y2 y3 y4 y5)) ∧ (∀ y0 y1 y2 y3 y4 y5, LeO (ratio_Parts.l1 k y0 y1 y2 y3 y4 y5) (ratio_Parts.l1 (k + 1) y0 y1 y2 y3 y4 y5))
  | 0 => ⟨fun _ _ _ _ _ _ r h => by simp [ratio_Parts.l0] at h, fun _ _ _ _ _ _ r h => by simp [ratio_Parts.l1] at h⟩
  | k + 1 => by
    obtain ⟨ih0, ih1⟩ := ratio_Parts.mono_l k
    refine ⟨?_, ?_⟩
    · intro y0 y1 y2 y3 y4 y5
      unfold ratio_Parts.l0
      repeat' first
      | (with_reducible exact ih0 _ _ _ _ _ _)
      | (with_reducible exact ih1 _ _ _ _ _ _)
      | (with_reducible exact ratio_divisor.mono _ _ _)
      | (with_reducible exact LeO.refl _)
      | (with_reducible exact LeO.none _)
      | (with_reducible refine LeO.ite ?_ ?_)
      | (with_reducible refine LeO.bind ?_ (fun _ => ?_))
      | exact ih0 _ _ _ _ _ _
      | exact ih1 _ _ _ _ _ _
      | exact ratio_divisor.mono _ _ _
      | exact LeO.none _
      | refine LeO.ite ?_ ?_
      | refine LeO.bind ?_ (fun _ => ?_)
    · intro y0 y1 y2 y3 y4 y5
      unfold ratio_Parts.l1
      repeat' first
      | (with_reducible exact ih0 _ _ _ _ _ _)
      | (with_reducible exact ih1 _ _ _ _ _ _)
      | (with_reducible exact ratio_divisor.mono _ _ _)
      | (with_reducible exact LeO.refl _)
      | (with_reducible exact LeO.none _)
      | (with_reducible refine LeO.ite ?_ ?_)
      | (with_reducible refine LeO.bind ?_ (fun _ => ?_))
      | exact ih0 _ _ _ _ _ _
      | exact ih1 _ _ _ _ _ _
      | exact ratio_divisor.mono _ _ _
      | exact LeO.none _
      | refine LeO.ite ?_ ?_
      | refine LeO.bind ?_ (fun _ => ?_)
theorem ratio_Parts.mono : ∀ a0 a1 k, LeO (ratio_Parts.f k a0 a1) (ratio_Parts.f (k + 1) a0 a1) := by
  intro a0 a1 k
  obtain ⟨ih0, ih1⟩ := ratio_Parts.mono_l k
  unfold ratio_Parts.f
  repeat' first
      | (with_reducible exact ih0 _ _ _ _ _ _)
      | (with_reducible exact ih1 _ _ _ _ _ _)
      | (with_reducible exact ratio_divisor.mono _ _ _)
      | (with_reducible exact LeO.refl _)
      | (with_reducible exact LeO.none _)
      | (with_reducible refine LeO.ite ?_ ?_)
      | (with_reducible refine LeO.bind ?_ (fun _ => ?_))
      | exact ih0 _ _ _ _ _ _
      | exact ih1 _ _ _ _ _ _
      | exact ratio_divisor.mono _ _ _
      | exact LeO.none _
      | refine LeO.ite ?_ ?_
      | refine LeO.bind ?_ (fun _ => ?_)
set_option maxHeartbeats 8000000 in
set_option maxRecDepth 100000 in
theorem ratio_Parts.calls (k : Nat) (A0 : Option Addr) (c0 : Nat) (l0 : List Int) (a1 : Int) (r1 : List Int) (r2 : Int) (w : World) (hr0 : Kd.C (Kd.int .i64) w A0 l0.length l0) (hc0 : l0.length ≤ c0) (h : ratio_Parts.f k l0 a1 = some (r1, r2)) :
  Calls Try.prog 80 #[.slice A0 l0.length c0, .int .i64 a1] w fun e w' => ∃ v0_ : Value, e = .returned (.agg #[v0_, .int .i64 r2]) ∧ Kd.R (Kd.int .i64) 3 w' w.heap.size (fun _ => True) v0_ r1 ∧ Below w.heap.size w w' := by
 have hu26 := Try.underlying26
 have HR0 := Aside0.mk hr0
 have HC0 := Aside0.mk hc0
 clear hr0 hc0
 have HB := Aside0.mk (Below.refl w.heap.size w)
 have H : (ratio_Parts.l0 k l0 a1 a1 l0 (l0.length : Int) 0) = some (r1, r2) := h
 clear h
 have H' := Aside0.mk H
 clear H
 go_enter Try.func80, Try.ntmps80
 go_wp2_with (first | ((with_reducible refine gate_dst (N := 4) rfl ?_); refine box_event ?hg (N := 4) ?hd (cs := #[.slice none 0 0, .int .i64 0]) (t := 26) ?hr ?_; (case hd => rfl); (case hg => rfl); (case hr => first | (go_simp; done) | (go_simp; rfl)); intro gb350 hg w3 hbox hb; have n0_ := Aside0.mk (below_step (by repeat (first | (with_reducible first | exact HB.out | apply below_alloc | apply pw_below_drewN | apply below_drew1) | exact HB.out)) hb); have n1_ := Aside0.mk (hbox); have n2_ := Aside0.mk ((by rw [hg]; exact (below_size (by repeat (first | (with_reducible first | exact HB.out | apply below_alloc | apply pw_below_drewN | apply below_drew1) | exact HB.out))) : w.heap.size ≤ gb350)); have n3_ := Aside0.mk ((by rw [hg]; exact (below_size (by repeat (first | (with_reducible first | exact HB.out | apply below_alloc | apply pw_below_drewN | apply below_drew1) | exact HB.out))) : w.heap.size ≤ gb350)); clear HB; have HB := n0_; have BK350 := n1_; have GW350 := n2_; have GE350 := n3_; clear n0_ n1_ n2_ n3_; clear hb hbox hg))
 go_loopg [5, 14] k (fun kq v5 v14 w' => ∃ (x5_1 : Int) (x14_1 : Int), v5 = .int .i64 x5_1 ∧ v14 = .int .i64 x14_1 ∧ Aside0 (ratio_Parts.l0 kq l0 a1 x5_1 l0 (l0.length : Int) x14_1 = some (r1, r2)) ∧ Aside0 (kq ≤ k) ∧ Aside0 (w'.heap[gb350]? = some (.cells #[(.slice none 0 0), .int .i64 0] 26 (0, 0))) ∧ Aside0 (Below w.heap.size w w'))
 case atStart => exact ⟨(a1), (0), (by first | rfl | (simp; done) | (simp [*]; done)), (by first | rfl | (simp; done) | (simp [*]; done)), H', ⟨Nat.le_refl _⟩, ⟨by (with_reducible repeat (first | refine blk_drewN ?_ _ | refine blk_drew ?_ | refine blk_alloc ?_ _)); exact BK350.out⟩, ⟨by repeat (first | (with_reducible first | exact HB.out | apply below_alloc | apply pw_below_drewN | apply below_drew1 | refine below_set ?_ GE350.out) | exact HB.out)⟩⟩
 case round =>
  clear H'
  try clear p2
  obtain ⟨x5_1, x14_1, rfl, rfl, HA, HK1, BK350, HB⟩ := hrel
  cases gk with
  | zero => exact absurd HA.out (by simp [ratio_Parts.l0])
  | succ k1 =>
   have H := HA.out
   clear HA
   simp only [ratio_Parts.l0] at H
   by_cases c4 : x14_1 < (l0.length : Int)
   ·rw [if_pos c4] at H
    have c4b0 : decide (x14_1 < (l0.length : Int)) = true := decide_eq_true c4
    clear c4
    by_cases c5 : 0 ≤ x14_1
    ·rw [if_pos c5] at H
     have c5b0 : decide (0 ≤ x14_1) = true := decide_eq_true c5
     clear c5
     by_cases c6 : x14_1 < (l0.length : Int)
     ·rw [if_pos c6] at H
      have c6b0 : decide (x14_1 < (l0.length : Int)) = true := decide_eq_true c6
      clear c6
      replace H := Option.bind_eq_some_iff.mp H
      obtain ⟨t352, A70, H⟩ := H
      replace H : (ratio_Parts.l0 k1 l0 a1 t352 l0 (l0.length : Int) (wrap64 (x14_1 + 1))) = some (r1, r2) := H
      have A7 := Aside0.mk A70
      clear A70
      have H' := Aside0.mk H
      clear H
      have p351 : 0 ≤ (x14_1 : Int) := of_decide_eq_true (by first | (with_reducible assumption) | assumption)
      have q351 : x14_1 < (l0.length : Int) := of_decide_eq_true (by first | (with_reducible assumption) | assumption)
      obtain ⟨ad351, e351, hx351_0⟩ := Kd.at_int HR0.out x14_1 p351 q351
      cases e351
      replace hx351_0 := (HB.out.cell (World.block_lt_of_cell? w _ hx351_0)).trans hx351_0
      replace p351 := eq_true p351
      replace q351 := eq_true q351
      go_wp2_with (first | ((with_reducible refine gate_callee (f := 99) rfl ?_); refine goesL_ (some 20) rfl rfl Try.func99 (by kernel_rfl) rfl #[.int .i64 x5_1, .int .i64 (rd l0 x14_1)] rfl (by (try simp only [List.map_toArray, List.map_cons, List.map_nil]); first | done | rfl | (simp only [List.length_drop, List.length_take]; rfl)) ?_; (with_reducible refine (ratio_divisor.calls k1 x5_1 (rd l0 x14_1) t352 _ A7.out).mono ?_); rintro e w8 ⟨rfl, hb⟩; refine ⟨_, rfl, ?_⟩; have n0_ := Aside0.mk (blk_below (g := gb350) (o := .cells #[.slice none 0 0, .int .i64 0] 26 (0, 0)) (by (with_reducible repeat (first | refine blk_drewN ?_ _ | refine blk_drew ?_ | refine blk_alloc ?_ _)); exact BK350.out) hb); have n1_ := Aside0.mk (below_step (by repeat (first | (with_reducible first | exact HB.out | apply below_alloc | apply pw_below_drewN | apply below_drew1 | refine below_set ?_ GE350.out) | exact HB.out)) hb); clear BK350; clear HB; have BK350 := n0_; have HB := n1_; clear n0_ n1_; (try clear hb); (try clear hb2); (try clear hk); (try clear hi)))
      go_roundg k1
      case measure => have := HK1.out; omega
      case rel => exact ⟨(t352), (wrap64 (x14_1 + 1)), (by first | rfl | (simp; done) | (simp [*]; done)), (by first | rfl | (simp; done) | (simp [*]; done)), H', ⟨by have := HK1.out; omega⟩, ⟨by (with_reducible repeat (first | refine blk_drewN ?_ _ | refine blk_drew ?_ | refine blk_alloc ?_ _)); exact BK350.out⟩, ⟨by repeat (first | (with_reducible first | exact HB.out | apply below_alloc | apply pw_below_drewN | apply below_drew1 | refine below_set ?_ GE350.out) | exact HB.out)⟩⟩
     ·rw [if_neg c6] at H
      exact absurd H (by simp)
    ·rw [if_neg c5] at H
     exact absurd H (by simp)
   ·rw [if_neg c4] at H
    have c4b0 : decide (x14_1 < (l0.length : Int)) = false := decide_eq_false c4
    clear c4
    obtain ⟨ji9, hji9⟩ : ∃ j_ : Int, (mx x5_1 (wrap64 (-x5_1))) = j_ := ⟨_, rfl⟩
    replace H : (if 0 ≤ (l0.length : Int) then (if ((l0.length : Int) : Int).toNat ≤ 35184372088832 then (ratio_Parts.l1 k1 a1 ji9 (List.replicate ((l0.length : Int) : Int).toNat 0) l0 (l0.length : Int) 0) else (none)) else (none)) = some (r1, r2) := by first | (rw [hji9] at H; exact H) | (simp only [hji9] at H ⊢; exact H)
    have hji9_ : (if x5_1 < (wrap64 (-x5_1)) then (wrap64 (-x5_1)) else x5_1) = ji9 := hji9
    by_cases c10 : 0 ≤ (l0.length : Int)
    ·rw [if_pos c10] at H
     have c10b0 := eq_true c10
     have c10b1 : decide (0 ≤ (l0.length : Int)) = true := decide_eq_true c10
     clear c10
     by_cases c11 : ((l0.length : Int) : Int).toNat ≤ 35184372088832
     ·rw [if_pos c11] at H
      have c11b0 := eq_true c11
      have c11b1 : decide (((l0.length : Int) : Int).toNat ≤ 35184372088832) = true := decide_eq_true c11
      clear c11
      obtain ⟨y353, hy353⟩ : ∃ y_ : List Int, y_ = (List.replicate ((l0.length : Int) : Int).toNat 0) := ⟨_, rfl⟩
      replace H : (ratio_Parts.l1 k1 a1 ji9 y353 l0 (l0.length : Int) 0) = some (r1, r2) := by first | (rw [hy353]; with_reducible exact H) | (have H2_ := (Option.bind_some _ _).symm.trans H; rw [hy353]; with_reducible exact H2_) | (have H2_ := (Option.bind_some _ _).symm.trans H; with_reducible exact H2_) | with_reducible exact H | (rw [hy353]; exact H) | exact H
      have Ny353 := Aside0.mk hy353
      clear hy353
      have H' := Aside0.mk H
      clear H
      go_wp2_with (first | ((with_reducible refine gate_dst (N := 28) rfl ?_); refine Kd.R_make (Kd.int .i64) _ 3 rfl (N := 28) rfl 24 _ _ rfl (l0.length : Int) rfl rfl Try.underlying24 (.int .i64 0) 8 info3 rfl (by decide) (by omega) 0 (ok := fun _ => True) (okp := fun _ => True) rfl (fun _ hk => hk) trivial (of_decide_eq_true (by first | (with_reducible assumption) | assumption)) (Nat.le_trans (Nat.mul_le_mul_right _ (of_decide_eq_true (by first | (with_reducible assumption) | assumption) : (l0.length : Int).toNat ≤ 35184372088832)) (by omega)) (Below.refl _ _) (Nat.le_refl _) ?_; intro v354 w12 ho13 hb hg_ hnew_; clear hg_ hnew_; (first | rw [← Ny353.out] at ho13 | (simp only [Int.reduceToNat] at ho13; rw [← Ny353.out] at ho13)); have n0_ := Aside0.mk (Kd.R_lower ho13 (below_size (by repeat (first | (with_reducible first | exact HB.out | apply below_alloc | apply pw_below_drewN | apply below_drew1 | refine below_set ?_ GE350.out) | exact HB.out)))); have n1_ := Aside0.mk (blk_below (g := gb350) (o := .cells #[.slice none 0 0, .int .i64 0] 26 (0, 0)) (by (with_reducible repeat (first | refine blk_drewN ?_ _ | refine blk_drew ?_ | refine blk_alloc ?_ _)); exact BK350.out) hb); have n2_ := Aside0.mk (below_step (by repeat (first | (with_reducible first | exact HB.out | apply below_alloc | apply pw_below_drewN | apply below_drew1 | refine below_set ?_ GE350.out) | exact HB.out)) hb); clear BK350; clear HB; have HO355 := n0_; have BK350 := n1_; have HB := n2_; clear n0_ n1_ n2_; clear hb ho13))
      go_loopg [31] k1 (fun kq v31 w' => ∃ (x8_2 : List Int) (x31_2 : Int), v31 = .int .i64 x31_2 ∧ Aside0 (ratio_Parts.l1 kq a1 ji9 x8_2 l0 (l0.length : Int) x31_2 = some (r1, r2)) ∧ Aside0 (kq ≤ k1) ∧ Aside0 (Kd.R (Kd.int .i64) 3 w' w.heap.size (fun _ => True) v354 x8_2) ∧ Aside0 (w'.heap[gb350]? = some (.cells #[(.slice none 0 0), .int .i64 0] 26 (0, 0))) ∧ Aside0 (Below w.heap.size w w'))
      case atStart => exact ⟨(y353), (0), (by first | rfl | (simp; done) | (simp [*]; done)), H', ⟨Nat.le_refl _⟩, ⟨by (with_reducible repeat (first | apply Kd.R_alloc | apply Kd.R_drewN | apply Kd.R_drew)); exact HO355.out⟩, ⟨by (with_reducible repeat (first | refine blk_drewN ?_ _ | refine blk_drew ?_ | refine blk_alloc ?_ _)); exact BK350.out⟩, ⟨by repeat (first | (with_reducible first | exact HB.out | apply below_alloc | apply pw_below_drewN | apply below_drew1 | refine below_set ?_ GE350.out) | exact HB.out)⟩⟩
      case round =>
       clear H'
       try clear c1
       try clear p2
       try clear p3
       try clear q3
       try clear hx3
       try clear c4
       try clear c4b0
       try clear c5
       try clear c5b0
       try clear c6
       try clear c6b0
       try clear p6
       try clear c8
       try clear c9
       try clear c10
       try clear c10b0
       try clear c10b1
       try clear c11
       try clear c11b0
       try clear c11b1
       try clear hx351_0
       try clear p2
       try clear p351
       try clear q351
       obtain ⟨x8_2, x31_2, rfl, HA, HK2, HO_8, BK350, HB⟩ := hrel
       cases gk with
       | zero => exact absurd HA.out (by simp [ratio_Parts.l1])
       | succ k2 =>
        have H := HA.out
        clear HA
        simp only [ratio_Parts.l1] at H
        by_cases c14 : x31_2 < (l0.length : Int)
        ·rw [if_pos c14] at H
         have c14b0 : decide (x31_2 < (l0.length : Int)) = true := decide_eq_true c14
         clear c14
         by_cases c15 : 0 ≤ x31_2
         ·rw [if_pos c15] at H
          have c15b0 : decide (0 ≤ x31_2) = true := decide_eq_true c15
          clear c15
          by_cases c16 : x31_2 < (l0.length : Int)
          ·rw [if_pos c16] at H
           have c16b0 : decide (x31_2 < (l0.length : Int)) = true := decide_eq_true c16
           clear c16
           by_cases c17 : ji9 = 0
           ·rw [if_pos c17] at H
            exact absurd H (by simp)
           ·rw [if_neg c17] at H
            have c17b0 : (ji9 == 0) = false := beq_eq_false_iff_ne.mpr c17
            have c17b1 : (ji9 != 0) = true := bne_iff_ne.mpr c17
            by_cases c18 : x31_2 < (x8_2.length : Int)
            ·rw [if_pos c18] at H
             have c18b0 : decide (x31_2 < (x8_2.length : Int)) = true := decide_eq_true c18
             clear c18
             obtain ⟨y357, hy357⟩ : ∃ y_ : List Int, y_ = (x8_2.set (x31_2 : Int).toNat (wrap64 (Int.tdiv (rd l0 x31_2) ji9))) := ⟨_, rfl⟩
             replace H : (ratio_Parts.l1 k2 a1 ji9 y357 l0 (l0.length : Int) (wrap64 (x31_2 + 1))) = some (r1, r2) := by first | (rw [hy357]; with_reducible exact H) | (have H2_ := (Option.bind_some _ _).symm.trans H; rw [hy357]; with_reducible exact H2_) | (have H2_ := (Option.bind_some _ _).symm.trans H; with_reducible exact H2_) | with_reducible exact H | (rw [hy357]; exact H) | exact H
             have Ny357 := Aside0.mk hy357
             clear hy357
             have H' := Aside0.mk H
             clear H
             have p356 : 0 ≤ (x31_2 : Int) := of_decide_eq_true (by first | (with_reducible assumption) | assumption)
             have q356 : x31_2 < (l0.length : Int) := of_decide_eq_true (by first | (with_reducible assumption) | assumption)
             obtain ⟨ad356, e356, hx356_0⟩ := Kd.at_int HR0.out x31_2 p356 q356
             cases e356
             replace hx356_0 := (HB.out.cell (World.block_lt_of_cell? w _ hx356_0)).trans hx356_0
             replace p356 := eq_true p356
             replace q356 := eq_true q356
             have p19 : 0 ≤ (x31_2 : Int) := of_decide_eq_true (by first | (with_reducible assumption) | assumption)
             have q19 : (x31_2 : Int) < ((x8_2.length : Int) : Int) := of_decide_eq_true (by first | (with_reducible assumption) | assumption)
             obtain ⟨go19, co19, eo19, gb19, gl19, cl19, HG19⟩ := Kd.R_form HO_8.out (by omega)
             (first | cases eo19 | (injection eo19 with ea_ en_ ec_; (first | subst ea_ | (injection ea_ with ea_; subst ea_)); subst ec_; clear en_))
             have GB19 := Aside0.mk gb19
             have GG19 := Aside0.mk HG19
             clear gb19 gl19 HG19
             obtain ⟨hx19_0, hf19_0⟩ := Kd.R_celln 0 HO_8.out (x31_2 : Int) p19 q19
             replace p19 := eq_true p19
             replace q19 := eq_true q19
             have HP20 := Kd.R_putg HO_8.out (x31_2 : Int) (wrap64 (Int.tdiv (rd l0 x31_2) ji9))
             go_wp2_with (first | ((with_reducible refine gate_store (t := 3) (p := 41) rfl ?_); refine store_event (t := 3) (p := 41) (v := ?vo_w21) (w1 := (wr.setCell ⟨go19, (x31_2 : Int).toNat, none⟩ (.int .i64 (wrap64 (Int.tdiv (rd l0 x31_2) ji9))))) ?hg ?ho ?hn ?hr ?_; (case ho => rfl); (case hg => rfl); (case hn => rfl); (case hr => first | (go_simp; done) | (go_simp; rfl)); intro w21 hw; have hg : wr.grownBy w21 (some go19) := (by rw [hw]; exact HP20.2); have hp_ : Kd.R (Kd.int .i64) 3 w21 w.heap.size (fun _ => True) (.slice (some ⟨go19, 0, none⟩) x8_2.length co19) y357 := (by rw [hw, Ny357.out]; exact HP20.1); clear HP20; have n0_ := Aside0.mk (hp_); have n1_ := Aside0.mk (blk_grown (g := gb350) (o := .cells #[.slice none 0 0, .int .i64 0] 26 (0, 0)) (by (with_reducible repeat (first | refine blk_drewN ?_ _ | refine blk_drew ?_ | refine blk_alloc ?_ _)); exact BK350.out) hg (Kd.R_ne HO_8.out BK350.out (by decide))); have n2_ := Aside0.mk ((by rw [hw]; exact below_set (HB.out) GB19.out : Below w.heap.size w w21)); clear HO_8; clear BK350; clear HB; have HO_8 := n0_; have BK350 := n1_; have HB := n2_; clear n0_ n1_ n2_; clear hg hw hp_))
             go_roundg k2
             case measure => have := HK1.out; have := HK2.out; omega
             case rel => exact ⟨(y357), (wrap64 (x31_2 + 1)), (by first | rfl | (simp; done) | (simp [*]; done)), H', ⟨by have := HK1.out; have := HK2.out; omega⟩, ⟨by (with_reducible repeat (first | apply Kd.R_alloc | apply Kd.R_drewN | apply Kd.R_drew)); exact HO_8.out⟩, ⟨by (with_reducible repeat (first | refine blk_drewN ?_ _ | refine blk_drew ?_ | refine blk_alloc ?_ _)); exact BK350.out⟩, ⟨by repeat (first | (with_reducible first | exact HB.out | apply below_alloc | apply pw_below_drewN | apply below_drew1 | refine below_set ?_ GE350.out) | exact HB.out)⟩⟩
            ·rw [if_neg c18] at H
             exact absurd H (by simp)
          ·rw [if_neg c16] at H
           exact absurd H (by simp)
         ·rw [if_neg c15] at H
          exact absurd H (by simp)
        ·rw [if_neg c14] at H
         have c14b0 : decide (x31_2 < (l0.length : Int)) = false := decide_eq_false c14
         clear c14
         by_cases c22 : ji9 = 0
         ·rw [if_pos c22] at H
          exact absurd H (by simp)
         ·rw [if_neg c22] at H
          have c22b0 : (ji9 == 0) = false := beq_eq_false_iff_ne.mpr c22
          have c22b1 : (ji9 != 0) = true := bne_iff_ne.mpr c22
          simp only [Option.some.injEq, Prod.mk.injEq] at H
          obtain ⟨rfl, rfl⟩ := H
          obtain ⟨Ao23, co23, eo23⟩ := Kd.R_slice HO_8.out
          subst eo23
          have hcz24_0 : wr.cell? ⟨gb350, 0, none⟩ = some (.slice none 0 0) := (blk_cell BK350.out 0).trans rfl
          have hcz24_1 : wr.cell? ⟨gb350, 1, none⟩ = some (.int .i64 0) := (blk_cell BK350.out 1).trans rfl
          have hfz24_0 := blk_frozen BK350.out 0
          have hfz24_1 := blk_frozen BK350.out 1
          go_wp2
          refine bodyPost_ret (results_cell_row rfl _ _ gb350 26 #[.slice Ao23 x8_2.length co23, .int .i64 (wrap64 (Int.tdiv a1 ji9))] (0, 0) _ rfl (by (with_reducible repeat (first | refine blk_drewN ?_ _ | refine blk_drew ?_ | refine blk_alloc ?_ _)); refine blk_put (cs := #[.slice Ao23 x8_2.length co23, .int .i64 0]) ?_ 1 _ rfl; (with_reducible repeat (first | refine blk_drewN ?_ _ | refine blk_drew ?_ | refine blk_alloc ?_ _)); refine blk_put (cs := #[.slice none 0 0, .int .i64 0]) ?_ 0 _ rfl; (with_reducible repeat (first | refine blk_drewN ?_ _ | refine blk_drew ?_ | refine blk_alloc ?_ _)); exact BK350.out) Try.underlying26 rfl (by kernel_rfl)) rfl ?_
          exact ⟨_, by first | rfl | (simp [errW_none, errW_some] <;> rfl) | (simp only [← hji9]; first | rfl | (simp [errW_none, errW_some] <;> rfl)) | (simp [*, errW_none, errW_some] <;> rfl), by (with_reducible repeat (first | apply Kd.R_alloc | apply Kd.R_drewN | apply Kd.R_drew)); exact Kd.R_mono (Kd.R_far (p := ⟨gb350, 1, none⟩) (Kd.R_far (p := ⟨gb350, 0, none⟩) (Kd.R_types HO_8.out BK350.out (by decide)) (fun _ hk => hk.2) (.slice Ao23 x8_2.length co23)) (fun _ hk => hk.2) (.int .i64 (wrap64 (Int.tdiv a1 ji9)))) (fun _ hk => trivial), by repeat (first | (with_reducible first | exact HB.out | apply below_alloc | apply pw_below_drewN | apply below_drew1 | refine below_set ?_ GE350.out) | exact HB.out)⟩
     ·rw [if_neg c11] at H
      exact absurd H (by simp)
    ·rw [if_neg c10] at H
     exact absurd H (by simp)
end Go.Proofs.Ytjgbdicbdlollaa.B
namespace Go.Proofs.Ytjgbdicbdlollaa.B
open Go.RowKit Go.Proofs.YtjgbdicbdlollaaW.PrintWords Go.Proofs.YtjgbdicbdlollaaW.PrintLast Go.Proofs.YtjgbdicbdlollaaW.PrintMore
set_option linter.unusedVariables false
set_option linter.unusedSimpArgs false
/-- A lane that stream refuses. -/
def badLane (x : S36) : Bool := decide (x.f0 < 0) || decide (10 < x.f0) || decide (x.f1 < 1) || decide (10 < x.f1)
def jam_stream.f (l : List S36) : Option Int := some (if 4 < l.length then 3 else if l = [] ∨ l.any badLane = true then 2 else 0)
set_option maxHeartbeats 800000 in
set_option maxRecDepth 100000 in
theorem bad_calls (x : S36) (w : World) : Calls Try.prog 76 #[.agg #[.int .i64 x.f0, .int .i64 x.f1]] w fun e w' => e = .returned (.bool (badLane x)) ∧ Below w.heap.size w w' := by
 have hu36 := Try.underlying36
 have HB := Aside0.mk (Below.refl w.heap.size w)
 obtain ⟨a, b⟩ := x
 unfold badLane
 simp only

 by_cases k1 : a < 0
 case pos =>
  have k1b : decide (a < 0) = true := decide_eq_true k1
  clear k1
  go_enter Try.func76, Try.ntmps76
  go_wp2_with (first | ((with_reducible refine gate_dst (N := 1) rfl ?_); refine box_event ?hg (N := 1) ?hd (cs := #[.int .i64 a, .int .i64 b]) (t := 36) ?hr ?_; (case hd => rfl); (case hg => rfl); (case hr => first | (go_simp; done) | (go_simp; rfl)); intro gb hg w1 hbox hb; have BB := Aside0.mk hbox; clear HB; have HB := Aside0.mk hb; clear hg hbox hb; have hb_0 : w1.cell? ⟨gb, 0, none⟩ = some (.int .i64 a) := (blk_cell BB.out 0).trans rfl; have hb_1 : w1.cell? ⟨gb, 1, none⟩ = some (.int .i64 b) := (blk_cell BB.out 1).trans rfl))
  go_ret
  exact ⟨by first | rfl | (simp only [k1b]; rfl) | (simp [k1b]; done), HB.out⟩
 have k1b : decide (a < 0) = false := decide_eq_false k1
 clear k1
 by_cases k2 : 10 < a
 case pos =>
  have k2b : decide (10 < a) = true := decide_eq_true k2
  clear k2
  go_enter Try.func76, Try.ntmps76
  go_wp2_with (first | ((with_reducible refine gate_dst (N := 1) rfl ?_); refine box_event ?hg (N := 1) ?hd (cs := #[.int .i64 a, .int .i64 b]) (t := 36) ?hr ?_; (case hd => rfl); (case hg => rfl); (case hr => first | (go_simp; done) | (go_simp; rfl)); intro gb hg w1 hbox hb; have BB := Aside0.mk hbox; clear HB; have HB := Aside0.mk hb; clear hg hbox hb; have hb_0 : w1.cell? ⟨gb, 0, none⟩ = some (.int .i64 a) := (blk_cell BB.out 0).trans rfl; have hb_1 : w1.cell? ⟨gb, 1, none⟩ = some (.int .i64 b) := (blk_cell BB.out 1).trans rfl))
  go_ret
  exact ⟨by first | rfl | (simp only [k1b, k2b]; rfl) | (simp [k1b, k2b]; done), HB.out⟩
 have k2b : decide (10 < a) = false := decide_eq_false k2
 clear k2
 by_cases k3 : b < 1
 case pos =>
  have k3b : decide (b < 1) = true := decide_eq_true k3
  clear k3
  go_enter Try.func76, Try.ntmps76
  go_wp2_with (first | ((with_reducible refine gate_dst (N := 1) rfl ?_); refine box_event ?hg (N := 1) ?hd (cs := #[.int .i64 a, .int .i64 b]) (t := 36) ?hr ?_; (case hd => rfl); (case hg => rfl); (case hr => first | (go_simp; done) | (go_simp; rfl)); intro gb hg w1 hbox hb; have BB := Aside0.mk hbox; clear HB; have HB := Aside0.mk hb; clear hg hbox hb; have hb_0 : w1.cell? ⟨gb, 0, none⟩ = some (.int .i64 a) := (blk_cell BB.out 0).trans rfl; have hb_1 : w1.cell? ⟨gb, 1, none⟩ = some (.int .i64 b) := (blk_cell BB.out 1).trans rfl))
  go_ret
  exact ⟨by first | rfl | (simp only [k1b, k2b, k3b]; rfl) | (simp [k1b, k2b, k3b]; done), HB.out⟩
 have k3b : decide (b < 1) = false := decide_eq_false k3
 clear k3
 by_cases k4 : 10 < b
 case pos =>
  have k4b : decide (10 < b) = true := decide_eq_true k4
  clear k4
  go_enter Try.func76, Try.ntmps76
  go_wp2_with (first | ((with_reducible refine gate_dst (N := 1) rfl ?_); refine box_event ?hg (N := 1) ?hd (cs := #[.int .i64 a, .int .i64 b]) (t := 36) ?hr ?_; (case hd => rfl); (case hg => rfl); (case hr => first | (go_simp; done) | (go_simp; rfl)); intro gb hg w1 hbox hb; have BB := Aside0.mk hbox; clear HB; have HB := Aside0.mk hb; clear hg hbox hb; have hb_0 : w1.cell? ⟨gb, 0, none⟩ = some (.int .i64 a) := (blk_cell BB.out 0).trans rfl; have hb_1 : w1.cell? ⟨gb, 1, none⟩ = some (.int .i64 b) := (blk_cell BB.out 1).trans rfl))
  go_ret
  exact ⟨by first | rfl | (simp only [k1b, k2b, k3b, k4b]; rfl) | (simp [k1b, k2b, k3b, k4b]; done), HB.out⟩
 have k4b : decide (10 < b) = false := decide_eq_false k4
 clear k4
 go_enter Try.func76, Try.ntmps76
 go_wp2_with (first | ((with_reducible refine gate_dst (N := 1) rfl ?_); refine box_event ?hg (N := 1) ?hd (cs := #[.int .i64 a, .int .i64 b]) (t := 36) ?hr ?_; (case hd => rfl); (case hg => rfl); (case hr => first | (go_simp; done) | (go_simp; rfl)); intro gb hg w1 hbox hb; have BB := Aside0.mk hbox; clear HB; have HB := Aside0.mk hb; clear hg hbox hb; have hb_0 : w1.cell? ⟨gb, 0, none⟩ = some (.int .i64 a) := (blk_cell BB.out 0).trans rfl; have hb_1 : w1.cell? ⟨gb, 1, none⟩ = some (.int .i64 b) := (blk_cell BB.out 1).trans rfl))
 go_ret
 exact ⟨by first | rfl | (simp only [k1b, k2b, k3b, k4b]; rfl) | (simp [k1b, k2b, k3b, k4b]; done), HB.out⟩
set_option maxHeartbeats 800000 in
set_option maxRecDepth 100000 in
theorem index_calls (A : Option Addr) (c : Nat) (l : List S36) (w : World) (hr : Kd.C k36 w A l.length l) (hl : l.length < 1000000) :
  Calls Try.prog 96 #[.slice A l.length c, .func (.func 76) #[] #[]] w fun e w' => ∃ r : Int, e = .returned (.int .i64 r) ∧ decide (0 ≤ r) = l.any badLane ∧ Below w.heap.size w w' := by
 have hu36 := Try.underlying36
 have HR := Aside0.mk hr
 have HL := Aside0.mk hl
 have HB := Aside0.mk (Below.refl w.heap.size w)
 clear hr hl
 go_enter Try.func96, Try.ntmps96
 go_wp2
 go_loopg [8] l.length (fun kq v8 w' => ∃ i : Nat, v8 = .int .i64 (i : Int) ∧ Aside0 (i + kq = l.length) ∧ Aside0 (∀ a : Nat, a < i → badLane (rd_T36 l (a : Int)) = false) ∧ Aside0 (Below w.heap.size w w'))
 case atStart => exact ⟨0, rfl, ⟨by simp⟩, ⟨fun a h => absurd h (Nat.not_lt_zero _)⟩, HB⟩
 case round =>
  clear HB
  obtain ⟨i, rfl, HI, HA, HB⟩ := hrel
  cases gk with
  | zero =>
   have hi := HI.out
   have c4b : decide ((i : Int) < (l.length : Int)) = false := decide_eq_false (by omega)
   have c4b2 : decide (i < l.length) = false := decide_eq_false (by omega)
   have HF := Aside0.mk (show l.any badLane = false by
    rw [List.any_eq_false]
    intro x hx
    obtain ⟨j, hj, rfl⟩ := List.getElem_of_mem hx
    have := HA.out j (by omega)
    simpa [rd_T36, List.getD, List.getElem?_eq_getElem hj] using this)
   clear hi
   go_wp2
   go_ret
   exact ⟨-1, by first | rfl | (simp; done), by rw [HF.out]; rfl, HB.out⟩
  | succ k1 =>
   have hi0 : (0 : Int) ≤ (i : Int) := Int.natCast_nonneg _
   have hi1 : (i : Int) < (l.length : Int) := by have := HI.out; omega
   have c4b : decide ((i : Int) < (l.length : Int)) = true := decide_eq_true hi1
   have c4b2 : decide (i < l.length) = true := decide_eq_true (by omega)
   have hi2 : (i < l.length) = True := eq_true (by omega)
   have HIL := Aside0.mk (show i < l.length by have := HI.out; omega)
   obtain ⟨ad, e, hx_0, hx_1⟩ := at_T36 HR.out (i : Int) hi0 hi1
   cases e
   obtain ⟨x, hx⟩ : ∃ x, rd_T36 l (i : Int) = x := ⟨_, rfl⟩
   have HX := Aside0.mk hx
   rw [hx] at hx_0 hx_1
   clear hx
   simp only [Int.toNat_natCast] at hx_0 hx_1
   replace hx_0 := (HB.out.cell (World.block_lt_of_cell? w _ hx_0)).trans hx_0
   replace hx_1 := (HB.out.cell (World.block_lt_of_cell? w _ hx_1)).trans hx_1
   replace hi0 := eq_true hi0
   replace hi1 := eq_true hi1
   cases hbd : badLane x with
   | true =>
    have HBD := Aside0.mk hbd
    clear hbd
    go_wp2_with (first | (go_at_call 76; (refine (bad_calls x _).mono ?_); rintro e w5 ⟨rfl, hb⟩; rw [HBD.out]; have n0_ := Aside0.mk (below_step HB.out hb); clear HB hb; have HB := n0_; clear n0_))
    go_ret
    exact ⟨(i : Int), by first | rfl | (simp; done), by
     rw [decide_eq_true (Int.natCast_nonneg _)]
     symm
     rw [List.any_eq_true]
     exact ⟨l[i]'HIL.out, List.getElem_mem _, by have h1 := HX.out; have h2 := HIL.out; have h3 := HBD.out; rw [← h1] at h3; simpa [rd_T36, List.getD, List.getElem?_eq_getElem h2] using h3⟩, HB.out⟩
   | false =>
    have HBD := Aside0.mk hbd
    clear hbd
    go_wp2_with (first | (go_at_call 76; (refine (bad_calls x _).mono ?_); rintro e w5 ⟨rfl, hb⟩; rw [HBD.out]; have n0_ := Aside0.mk (below_step HB.out hb); clear HB hb; have HB := n0_; clear n0_))
    go_roundg k1
    case measure => omega
    case rel => exact ⟨i + 1, val_succ i (by have := HIL.out; have := HL.out; omega), ⟨by have := HI.out; omega⟩, ⟨fun a ha => by rcases Nat.lt_or_ge a i with h | h; exact HA.out a h; (have : a = i := by omega); rw [this, HX.out]; exact HBD.out⟩, HB⟩
set_option maxHeartbeats 800000 in
set_option maxRecDepth 100000 in
theorem contains_calls (A : Option Addr) (c : Nat) (l : List S36) (w : World) (hr : Kd.C k36 w A l.length l) (hl : l.length < 1000000) :
  Calls Try.prog 75 #[.slice A l.length c, .func (.func 76) #[] #[]] w fun e w' => e = .returned (.bool (l.any badLane)) ∧ Below w.heap.size w w' := by
 have HR := Aside0.mk hr
 have HL := Aside0.mk hl
 have HB := Aside0.mk (Below.refl w.heap.size w)
 clear hr hl
 go_enter Try.func75, Try.ntmps75
 go_wp2_with (first | (go_at_call 96; (refine (index_calls A c l _ (Kd.C_below HR.out HB.out) HL.out).mono ?_); rintro e w5 ⟨r, rfl, hd, hb⟩; have HD := Aside0.mk hd; have n0_ := Aside0.mk (below_step HB.out hb); clear HB hb hd; have HB := n0_; clear n0_))
 go_ret
 exact ⟨by rw [← HD.out]; first | rfl | (simp; done), HB.out⟩
set_option maxHeartbeats 800000 in
set_option maxRecDepth 100000 in
theorem jam_stream.calls (A0 : Option Addr) (c0 : Nat) (l0 : List S36) (r : Int) (w : World) (hr0 : Kd.C k36 w A0 l0.length l0) (hc0 : l0.length ≤ c0) (h : jam_stream.f l0 = some r) :
  Calls Try.prog 48 #[.slice A0 l0.length c0] w fun e w' => e = .returned (.int .i64 r) ∧ Below w.heap.size w w' := by
 unfold jam_stream.f at h
 obtain rfl := Option.some.inj h
 have HR := Aside0.mk hr0
 have HB := Aside0.mk (Below.refl w.heap.size w)
 clear hr0 h
 by_cases k1 : 4 < l0.length
 ·have d1 : decide (4 < (l0.length : Int)) = true := decide_eq_true (by omega)
  have d2 : decide (4 < l0.length) = true := decide_eq_true k1
  rw [if_pos k1]
  clear k1
  go_enter Try.func48, Try.ntmps48
  go_wp2
  go_ret
  exact ⟨by first | rfl | (simp; done), HB.out⟩
 have d1 : decide (4 < (l0.length : Int)) = false := decide_eq_false (by omega)
 have d2 : decide (4 < l0.length) = false := decide_eq_false k1
 have HL := Aside0.mk (show l0.length < 1000000 by omega)
 rw [if_neg k1]
 clear k1
 by_cases k2 : l0 = []
 ·subst k2
  rw [if_pos (.inl rfl)]
  go_enter Try.func48, Try.ntmps48
  go_wp2
  go_ret
  exact ⟨by first | rfl | (simp; done), HB.out⟩
 have hne : l0.length ≠ 0 := fun h => k2 (List.length_eq_zero_iff.1 h)
 have d3 : ((l0.length : Int) == 0) = false := beq_eq_false_iff_ne.mpr (by omega)
 have d4 : (l0.length == 0) = false := beq_eq_false_iff_ne.mpr hne
 have d5 : decide (l0.length = 0) = false := decide_eq_false hne
 have d6 : decide (l0 = []) = false := decide_eq_false k2
 cases hb : l0.any badLane with
 | true =>
  rw [if_pos (.inr rfl)]
  have HBD := Aside0.mk hb
  clear hb hne
  go_enter Try.func48, Try.ntmps48
  go_wp2_with (first | (go_at_call 75; (refine (contains_calls A0 c0 l0 _ (Kd.C_below HR.out HB.out) HL.out).mono ?_); rintro e w5 ⟨rfl, hb⟩; rw [HBD.out]; have n0_ := Aside0.mk (below_step HB.out hb); clear HB hb; have HB := n0_; clear n0_))
  go_ret
  exact ⟨by first | rfl | (simp; done), HB.out⟩
 | false =>
  rw [if_neg (by rintro (h | h); exact k2 h; cases h)]
  have HBD := Aside0.mk hb
  clear hb hne
  go_enter Try.func48, Try.ntmps48
  go_wp2_with (first | (go_at_call 75; (refine (contains_calls A0 c0 l0 _ (Kd.C_below HR.out HB.out) HL.out).mono ?_); rintro e w5 ⟨rfl, hb⟩; rw [HBD.out]; have n0_ := Aside0.mk (below_step HB.out hb); clear HB hb; have HB := n0_; clear n0_))
  go_ret
  exact ⟨by first | rfl | (simp; done), HB.out⟩
end Go.Proofs.Ytjgbdicbdlollaa.B
namespace Go.Proofs.Ytjgbdicbdlollaa.B
open Go.RowKit Go.Proofs.YtjgbdicbdlollaaW.PrintWords Go.Proofs.YtjgbdicbdlollaaW.PrintLast Go.Proofs.YtjgbdicbdlollaaW.PrintMore
set_option linter.unusedVariables false
set_option linter.unusedSimpArgs false
def lanes_Clone.f (l0 : List S36) : Option (List S36) := if l0.length < 1000000 then some l0 else none
set_option maxHeartbeats 800000 in
set_option maxRecDepth 100000 in
theorem lanes_Clone.calls (A0 : Option Addr) (c0 : Nat) (l0 : List S36) (r : List S36) (w : World) (hr0 : Kd.C k36 w A0 l0.length l0) (hc0 : l0.length ≤ c0) (h : lanes_Clone.f l0 = some r) :
  Calls Try.prog 77 #[.slice A0 l0.length c0] w fun e w' => ∃ v0_ : Value, e = .returned (v0_) ∧ Kd.R k36 36 w' w.heap.size (fun _ => True) v0_ r ∧ Below w.heap.size w w' := by
 have HR0 := Aside0.mk hr0
 clear hr0
 have qT : ∀ (w : World) (a : Option Addr) (n c n' c' : Nat), (binOp .eql 22 (.slice a n c) (.slice none n' c')).run Try.prog w = .ok (.bool a.isNone) w := fun w a n c n' c' => Lib.run_eql_slice_nil w _ _ a n c n' c' Try.underlying22
 unfold lanes_Clone.f at h
 split at h
 case isFalse => exact absurd h (by simp)
 rename_i hl
 obtain rfl := Option.some.inj h
 clear h
 have HB := Aside0.mk (Below.refl w.heap.size w)
 rcases A0 with _ | ad
 ·obtain rfl : l0 = [] := by
   obtain ⟨inner, h1, h2⟩ := HR0.out
   rcases l0 with _ | ⟨x, l⟩
   ·rfl
   ·obtain ⟨ad, c, e, _⟩ := Kd.C_get HR0.out z36 0 (by omega) (by simp)
    exact absurd e (by simp)
  go_enter Try.func77, Try.ntmps77
  go_wp2
  go_ret
  exact ⟨_, rfl, Kd.R_nil _ _ _ _ _, by repeat (first | exact Below.refl _ _ | apply below_alloc)⟩
 ·go_enter Try.func77, Try.ntmps77
  go_wp2_with (first | ((with_reducible refine gate_dst (N := 5) rfl ?_); refine Kd.R_lit k36 _ 36 ?hg (N := 5) ?hd (xs := ([] : List S36)) (inner := []) (ok := fun _ => True) (okp := fun _ => True) ?hr ?hp (fun _ hk => hk) trivial (Below.refl _ _) (Nat.le_refl _) (by simp) ?_; (case hd => rfl); (case hg => rfl); (case hr => first | (go_simp; done) | (go_simp; rfl)); (case hp => exact (Reps.none _ _)); intro v5 w1 ho2 hb hg_ hnew_; have HO := Aside0.mk ho2; have HB1 := Aside0.mk hb; clear ho2 hb hg_ hnew_) | ((with_reducible refine gate_dst (N := 7) rfl ?_); refine Kd.R_append_rows k36 (w0 := w) w.heap.size rfl (.tmp 5) (.tmp 6) 22 36 (.agg #[(.int .i64 0), (.int .i64 0)]) 16 rfl Try.underlying22 info36 rfl (by decide) (by omega) v5 ([] : List S36) l0 _ _ _ (fun _ => True) (fun _ => False) rfl rfl ?aO ?aR (fun _ _ h => h) (fun _ h => h.elim) ?aF ?aB ?aS ?aL ?_; (case aR => exact Kd.C_below HR0.out HB1.out); (case aB => exact HB1.out); (case aF => exact (fun _ _ => trivial)); (case aO => exact HO.out); (case aS => exact HB1.out.size); (case aL => simp; omega); intro v7 w2 ho2 hb hg_ hat_; have HO2 := Aside0.mk ho2; have HB2 := Aside0.mk hb; clear ho2 hb hg_ hat_))
  go_ret
  exact ⟨_, rfl, by simpa using HO2.out, HB2.out⟩
end Go.Proofs.Ytjgbdicbdlollaa.B
namespace Go.Proofs
open Go.Shelf Go.RowKit Go.Lib Go.Sort
def Ytjgbdicbdlollaa.B.layLanes_ren : Go.Shelf.Ren := ⟨fun | 6 => 78 | 15 => 98 | 14 => 97 | 28 => 114 | 29 => 115 | 20 => 106 | 21 => 107 | 22 => 108 | 23 => 109 | 24 => 110 | 25 => 111 | 26 => 112 | 27 => 113 | 46 => 120 | 47 => 121 | 48 => 122 | 49 => 123 | 50 => 124 | 57 => 125 | n => n, fun | 22 => 22 | 24 => 36 | 25 => 111 | 3 => 3 | 39 => 127 | 0 => 0 | 53 => 143 | 55 => 145 | 4 => 4 | 46 => 136 | 45 => 135 | 50 => 140 | 5 => 5 | 9 => 9 | 66 => 148 | 70 => 152 | 76 => 154 | 77 => 155 | n => n, fun | n => n⟩
theorem Ytjgbdicbdlollaa.B.layLanes : Go.Proofs.SlLaysF0.n6 Try.prog Ytjgbdicbdlollaa.B.layLanes_ren where
  mixed := by kernel_rfl
  f6 := ⟨Try.f78.name, by kernel_rfl, Try.func78.trans (congrArg some (by kernel_rfl))⟩
  f14 := ⟨Try.f97.name, by kernel_rfl, Try.func97.trans (congrArg some (by kernel_rfl))⟩
  f15 := Try.func98.trans (congrArg some (by kernel_rfl))
  f20 := ⟨Try.f106.name, by kernel_rfl, Try.func106.trans (congrArg some (by kernel_rfl))⟩
  f21 := ⟨Try.f107.name, by kernel_rfl, Try.func107.trans (congrArg some (by kernel_rfl))⟩
  f22 := ⟨Try.f108.name, by kernel_rfl, Try.func108.trans (congrArg some (by kernel_rfl))⟩
  f23 := ⟨Try.f109.name, by kernel_rfl, Try.func109.trans (congrArg some (by kernel_rfl))⟩
  f24 := ⟨Try.f110.name, by kernel_rfl, Try.func110.trans (congrArg some (by kernel_rfl))⟩
  f25 := ⟨Try.f111.name, by kernel_rfl, Try.func111.trans (congrArg some (by kernel_rfl))⟩
  f26 := ⟨Try.f112.name, by kernel_rfl, Try.func112.trans (congrArg some (by kernel_rfl))⟩
  f27 := ⟨Try.f113.name, by kernel_rfl, Try.func113.trans (congrArg some (by kernel_rfl))⟩
  f28 := Try.func114.trans (congrArg some (by kernel_rfl))
  f29 := Try.func115.trans (congrArg some (by kernel_rfl))
  f46 := ⟨Try.f120.name, by kernel_rfl, Try.func120.trans (congrArg some (by kernel_rfl))⟩
  f47 := Try.func121.trans (congrArg some (by kernel_rfl))
  f48 := Try.func122.trans (congrArg some (by kernel_rfl))
  f49 := ⟨Try.f123.name, by kernel_rfl, Try.func123.trans (congrArg some (by kernel_rfl))⟩
  f50 := ⟨Try.f124.name, by kernel_rfl, Try.func124.trans (congrArg some (by kernel_rfl))⟩
  f57 := ⟨Try.f125.name, by kernel_rfl, Try.func125.trans (congrArg some (by kernel_rfl))⟩
  t0 := Try.underlying0
  a0 := Try.isAgg0
  z0 := Try.sizeOf0
  v0 := Try.zeroValue0
  t3 := Try.underlying3
  a3 := Try.isAgg3
  z3 := Try.sizeOf3
  v3 := Try.zeroValue3
  t4 := Try.underlying4
  a4 := Try.isAgg4
  z4 := Try.sizeOf4
  v4 := Try.zeroValue4
  t5 := Try.underlying5
  a5 := Try.isAgg5
  z5 := Try.sizeOf5
  v5 := Try.zeroValue5
  t9 := Try.underlying9
  a9 := Try.isAgg9
  z9 := Try.sizeOf9
  v9 := Try.zeroValue9
  t22 := Try.underlying22
  a22 := Try.isAgg22
  z22 := Try.sizeOf22
  v22 := Try.zeroValue22
  t25 := Try.underlying111
  a25 := Try.isAgg111
  z25 := Try.sizeOf111
  v25 := Try.zeroValue111
  t39 := Try.underlying127
  a39 := Try.isAgg127
  z39 := Try.sizeOf127
  v39 := Try.zeroValue127
  t45 := Try.underlying135
  a45 := Try.isAgg135
  z45 := Try.sizeOf135
  v45 := Try.zeroValue135
  t46 := Try.underlying136
  a46 := Try.isAgg136
  z46 := Try.sizeOf136
  v46 := Try.zeroValue136
  t50 := Try.underlying140
  a50 := Try.isAgg140
  z50 := Try.sizeOf140
  v50 := Try.zeroValue140
  t53 := Try.underlying143
  a53 := Try.isAgg143
  z53 := Try.sizeOf143
  v53 := Try.zeroValue143
  t55 := Try.underlying145
  a55 := Try.isAgg145
  z55 := Try.sizeOf145
  v55 := Try.zeroValue145
  t66 := Try.underlying148
  a66 := Try.isAgg148
  z66 := Try.sizeOf148
  v66 := Try.zeroValue148
  t70 := Try.underlying152
  a70 := Try.isAgg152
  z70 := Try.sizeOf152
  v70 := Try.zeroValue152
  t76 := Try.underlying154
  a76 := Try.isAgg154
  z76 := Try.sizeOf154
  v76 := Try.zeroValue154
  t77 := Try.underlying155
  a77 := Try.isAgg155
  z77 := Try.sizeOf155
  v77 := Try.zeroValue155
end Go.Proofs
namespace Go.Proofs.Ytjgbdicbdlollaa.B
open Go.RowKit Go.Sort Go.Proofs.YtjgbdicbdlollaaW.PrintWords Go.Proofs.YtjgbdicbdlollaaW.PrintLast Go.Proofs.YtjgbdicbdlollaaW.PrintMore
set_option linter.unusedVariables false
set_option linter.unusedSimpArgs false
/-- A lane whose A is a rate. -/
structure Ln where
  x : S36
  h : 0 ≤ x.f0 ∧ x.f0 ≤ 10
instance : Inhabited Ln := ⟨⟨⟨0, 0⟩, by decide⟩⟩
def encLn (d : Ln) : List Value := [.int .i64 d.x.f0, .int .i64 d.x.f1]
def cfLn (a b : Ln) : Int := a.x.f0 - b.x.f0
def lnsOf : List S36 → Option (List Ln)
  | [] => some []
  | x :: l => if h : 0 ≤ x.f0 ∧ x.f0 ≤ 10 then (lnsOf l).bind fun ds => some (⟨x, h⟩ :: ds) else none
theorem lnsOf_map : ∀ {l : List S36} {ds : List Ln}, lnsOf l = some ds → ds.map Ln.x = l
  | [], ds, h => by simp [lnsOf] at h; subst h; rfl
  | x :: l, ds, h => by
    unfold lnsOf at h
    split at h
    case isFalse => exact absurd h (by simp)
    obtain ⟨ds2, h2, h⟩ := Option.bind_eq_some_iff.1 h
    obtain rfl := Option.some.inj h
    simp [lnsOf_map h2]
def sortLn (ds : List Ln) : Array Ln := Go.Sort.insertionSort (ltOf cfLn) ds.toArray 0 ds.toArray.size
def lanes_Sorted.f (l : List S36) : Option (List S36) := if 1 ≤ l.length ∧ l.length ≤ 12 then (lnsOf l).bind fun ds => some ((sortLn ds).toList.map Ln.x) else none
theorem lanes_clone_of {l l' : List S36} (h : lanes_Sorted.f l = some l') : lanes_Clone.f l = some l := by
  unfold lanes_Sorted.f at h
  split at h
  case isFalse => exact absurd h (by simp)
  rename_i h12
  unfold lanes_Clone.f
  rw [if_pos (by omega)]
theorem lanes_Sorted.mono : ∀ l, LeO (lanes_Sorted.f l) (lanes_Sorted.f l) := fun _ => LeO.refl _
theorem swo_cfLn : SWO (ltOf cfLn) where
  irrefl x := by simp [ltOf, cfLn]
  trans x y z h1 h2 := by
    unfold ltOf cfLn at *
    simp only [decide_eq_true_eq] at *
    omega
  ntrans x y z h1 h2 := by
    unfold ltOf cfLn at *
    simp only [decide_eq_false_iff_not] at *
    omega
set_option maxHeartbeats 1000000 in
theorem closure79 (x y : Ln) (W : World) : Calls Try.prog 79 #[.agg #[.int .i64 x.x.f0, .int .i64 x.x.f1], .agg #[.int .i64 y.x.f0, .int .i64 y.x.f1]] W fun e w' => e = .returned (.int .i64 (cfLn x y)) ∧ ∃ q os', w' = grow (W.drewN q) os' := by
 obtain ⟨⟨a, b⟩, h⟩ := x
 obtain ⟨⟨c, d⟩, h2⟩ := y
 unfold cfLn
 simp only at h h2 ⊢
 have e : wrap64 (a - c) = a - c := by unfold wrap64; omega
 rw [← e]
 clear e h h2
 go_enter Try.func79, Try.ntmps79
 go_wp2
 go_ret
 exact ⟨rfl, 0, _, by rw [alloc_eq_grow, alloc_eq_grow, grow_grow]; rfl⟩
set_option maxHeartbeats 1000000 in
theorem len_calls (n : Nat) (W : World) (h : n ≤ 12) : Calls Try.prog 98 #[.int .u64 n] W fun e w' => (∃ l : Int, e = .returned (.int .i64 l)) ∧ w' = W := by
 have hn : n = 0 ∨ n = 1 ∨ n = 2 ∨ n = 3 ∨ n = 4 ∨ n = 5 ∨ n = 6 ∨ n = 7 ∨ n = 8 ∨ n = 9 ∨ n = 10 ∨ n = 11 ∨ n = 12 := by omega
 clear h
 rcases hn with rfl | rfl | rfl | rfl | rfl | rfl | rfl | rfl | rfl | rfl | rfl | rfl | rfl
 all_goals
  go_enter Try.func98, Try.ntmps98
  go_wp2
  go_ret
  exact ⟨⟨_, rfl⟩, rfl⟩
section
variable {w : World} {g base n cap k : Nat} {e : TypeId}
theorem own_holdsK {d : Array Value} (h : w.ownsRow base e k (.slice (some ⟨g, 0, none⟩) n cap) n d.toList) : Holds id w g 0 d ∧ g < w.heap.size := by
  refine ⟨fun j hj => ?_, own_lt h g rfl⟩
  rw [Nat.zero_add]
  refine ⟨?_, ?_⟩
  · have hc := h.cells (g := g) rfl j d[j]! (by simp [hj])
    rwa [add_plain] at hc
  · rcases h.2 with ⟨h', _⟩ | ⟨g', cap', cur, h', _, hh, _⟩
    · cases h'
    · have : g = g' := by injection h' with h'; injection h' with h'; injection h' with h'
      subst this
      simp [World.frozen?, hh]
theorem putCells_takeV (d : Array Value) (cur : Array Value) (h : d.size ≤ cur.size) : (putCells id 0 d cur).toList.take d.size = d.toList := by
  apply List.ext_getElem?
  intro i
  rw [List.getElem?_take]
  by_cases hi : i < d.size
  · rw [if_pos hi]
    simp only [putCells, Array.getElem?_toList, Array.getElem?_mapIdx]
    rw [Array.getElem?_eq_getElem (show i < cur.size by omega), Array.getElem?_eq_getElem hi]
    simp [hi]
  · rw [if_neg hi]
    symm
    simp; omega
theorem putRow_blockV {cur : Array Value} (hh : w.heap[g]? = some (.cells cur e (0, 0))) (q : Nat) (d : Array Value) (os : Array Obj) :
    (Go.Sort.grow (putRow id (Go.Sort.ahead w q) g 0 d) os).heap[g]? = some (.cells (putCells id 0 d cur) e (0, 0)) ∧ w.grownBy (Go.Sort.grow (putRow id (Go.Sort.ahead w q) g 0 d) os) (some g) := by
  have hlt := (Array.getElem?_eq_some_iff.1 hh).1
  refine ⟨?_, ?_⟩
  · rw [heap_grow_old _ _ (by simpa [putRow, mapBlock, Go.Sort.ahead] using hlt)]
    simp [putRow, mapBlock, Go.Sort.ahead, Array.getElem?_modify, hh, onCells]
  · refine ⟨rfl, rfl, rfl, by simp [putRow, mapBlock, Go.Sort.ahead], fun k hk hne => ?_⟩
    rw [heap_grow_old _ _ (by simpa [putRow, mapBlock, Go.Sort.ahead] using hk)]
    simp only [putRow, mapBlock, Go.Sort.ahead, Array.getElem?_modify]
    rw [if_neg (fun h => hne (by rw [h]))]
theorem own_putK {inner : List Value} (h : w.ownsRow base e k (.slice (some ⟨g, 0, none⟩) n cap) n inner) (q : Nat) (d : Array Value) (hd : d.size = n * k) (os : Array Obj) :
    (Go.Sort.grow (putRow id (Go.Sort.ahead w q) g 0 d) os).ownsRow base e k (.slice (some ⟨g, 0, none⟩) n cap) n d.toList ∧ w.grownBy (Go.Sort.grow (putRow id (Go.Sort.ahead w q) g 0 d) os) (some g) := by
  obtain ⟨h1, h2⟩ := h
  rcases h2 with ⟨h2, _⟩ | ⟨g', cap', cur, h2, hb, hh, hc, hm, hs, ht⟩
  · cases h2
  · injection h2 with h2 _ h3
    injection h2 with h2
    injection h2 with h2
    subst h2 h3
    obtain ⟨hp1, hp2⟩ := putRow_blockV hh q d os
    refine ⟨⟨by simp [hd], .inr ⟨g, cap, _, rfl, hb, hp1, hc, hm, by simp [putCells, hs], ?_⟩⟩, hp2⟩
    rw [← hd]
    exact putCells_takeV d cur (by rw [hd, hs]; exact Nat.mul_le_mul_right _ hc)
end
theorem enc_flat (d : Array Ln) (j : Nat) (hj : j < d.size) : ((flatK encLn 2 d).toList.drop (j * 2)).take 2 = encLn d[j]! := by
  apply List.ext_getElem?
  intro i
  rw [List.getElem?_take, List.getElem?_drop]
  by_cases hi : i < 2
  · rw [if_pos hi]
    have h1 : j * 2 + i < (flatK encLn 2 d).size := by rw [size_flatK]; omega
    have h2 := get_flatK encLn 2 d (j * 2 + i) (by omega)
    rw [getElem!_pos (flatK encLn 2 d) _ h1] at h2
    rw [Array.getElem?_toList, Array.getElem?_eq_getElem h1, h2, show (j * 2 + i) / 2 = j by omega, show (j * 2 + i) % 2 = i by omega]
    rcases (show i = 0 ∨ i = 1 by omega) with rfl | rfl <;> rfl
  · rw [if_neg hi]
    symm
    simp [encLn]; omega
theorem inner_flat {w : World} {base : Nat} {ok : Nat → Prop} {ds : List Ln} {inner : List Value} (hr : Reps (k36.M w base ok) 2 (ds.map Ln.x) inner) : inner = (flatK encLn 2 ds.toArray).toList := by
  have hl : inner.length = ds.length * 2 := by have := hr.1; simpa using this
  apply List.ext_getElem?
  intro t
  by_cases ht : t < ds.length * 2
  · have hj : t / 2 < ds.length := by omega
    have h1 := hr.2 (t / 2) ds[t / 2].x (by simp [hj])
    have h2 := k36_openM h1
    have h3 := enc_flat ds.toArray (t / 2) (by simpa using hj)
    have e1 : ds.toArray[t / 2]! = ds[t / 2] := by simp [hj]
    rw [e1] at h3
    have h4 : ((inner.drop (t / 2 * 2)).take 2)[t % 2]? = (((flatK encLn 2 ds.toArray).toList.drop (t / 2 * 2)).take 2)[t % 2]? := by rw [h2, h3]; rfl
    rw [List.getElem?_take, List.getElem?_take, if_pos (by omega), if_pos (by omega), List.getElem?_drop, List.getElem?_drop, show t / 2 * 2 + t % 2 = t by omega] at h4
    exact h4
  · rw [List.getElem?_eq_none (by omega), List.getElem?_eq_none (by simp; omega)]
theorem sortLanes_calls (A : Option Addr) (c : Nat) (l l' : List S36) (base : Nat) (w : World) (hR : Kd.R k36 36 w base (fun _ => True) (.slice A l.length c) l) (h : lanes_Sorted.f l = some l') :
    Calls Try.prog 78 #[.slice A l.length c, .func (.func 79) #[] #[]] w fun e w' => e = .returned (.tuple #[]) ∧ Kd.R k36 36 w' base (fun _ => True) (.slice A l.length c) l' ∧ l'.length = l.length ∧ w.grownBy w' (Value.slice A l.length c).ownBlock := by
  unfold lanes_Sorted.f at h
  split at h
  case isFalse => exact absurd h (by simp)
  rename_i h12
  have hne : l ≠ [] := by rintro rfl; simp at h12
  replace h12 := h12.2
  obtain ⟨ds, hds, h⟩ := Option.bind_eq_some_iff.1 h
  obtain rfl := Option.some.inj h
  have hm := lnsOf_map hds
  subst hm
  have hlen : (ds.map Ln.x).length = ds.length := List.length_map ..
  obtain ⟨g, cap, e, hb, hg, cells, hc⟩ := Kd.R_form hR (List.length_pos_iff.2 hne)
  injection e with e _ e2
  subst e e2
  obtain ⟨h0, inner, ho, hr⟩ := hR
  have hin := inner_flat hr
  subst hin
  have hH := own_holdsK ho
  have eg : ∀ args w, (callFunc 79 args).run Try.prog w = .ok (.enter 79 args) w := enters_of Try.func79 (by kernel_rfl) rfl
  have hcon := AnyQ.slices_SortFunc_small_sorted layLanes 2 Try.isAgg36 Try.sizeOf36 encLn (fun _ => rfl) (fun x v hv => by simp [encLn] at hv; rcases hv with rfl | rfl <;> rfl) cfLn 79 #[] swo_cfLn g 0 c ds.toArray w eg (fun _ _ _ _ x y => closure79 x y _) hH.1 hH.2 (by simpa [hlen] using h12) len_calls
  have hcon2 := AnyQ.slices_SortFunc_small layLanes 2 Try.isAgg36 Try.sizeOf36 encLn (fun _ => rfl) (fun x v hv => by simp [encLn] at hv; rcases hv with rfl | rfl <;> rfl) cfLn 79 #[] g 0 c ds.toArray w eg (fun _ _ _ _ x y => closure79 x y _) hH.1 hH.2 (by simpa [hlen] using h12) len_calls
  change Calls Try.prog 78 _ _ _ at hcon2
  have hsz : ds.toArray.size = (ds.map Ln.x).length := by simp
  rw [hsz] at hcon2
  have hp := insertionSort_holds (lt := ltOf cfLn) swo_cfLn ds.toArray 0 ds.toArray.size (Nat.zero_le _) (Nat.le_refl _)
  have hsl : (sortLn ds).size = ds.length := by have h_ := hp.1.1; unfold sortLn; exact h_.trans (by simp)
  refine hcon2.mono fun e w' hw => ?_
  obtain ⟨he, q, os, rfl⟩ := hw
  have e3 : Go.Sort.insertionSort (ltOf cfLn) ds.toArray 0 (ds.map Ln.x).length = sortLn ds := by unfold sortLn; rw [hsz]
  rw [e3]
  have hp2 := own_putK ho q (flatK encLn 2 (sortLn ds)) (by rw [size_flatK, hsl, hlen]; rfl) os
  refine ⟨he, ⟨h0, (flatK encLn 2 (sortLn ds)).toList, ?_, ?_⟩, by simp [hsl], hp2.2⟩
  · rw [show ((sortLn ds).toList.map Ln.x).length = (ds.map Ln.x).length by simp [hsl]]
    exact hp2.1
  · show Reps _ 2 _ _
    refine ⟨by simp, fun j p hj => ?_⟩
    rw [List.getElem?_map] at hj
    have hjl : j < (sortLn ds).size := by
      rcases Nat.lt_or_ge j (sortLn ds).size with h | h
      · exact h
      · rw [List.getElem?_eq_none (by simpa using h)] at hj; simp at hj
    rw [enc_flat _ _ hjl]
    have e4 : (sortLn ds)[j]!.x = p := by
      rw [getElem!_pos (sortLn ds) _ hjl]
      simpa [List.getElem?_eq_getElem (show j < (sortLn ds).toList.length by simpa using hjl)] using hj
    rw [← e4]
    exact k36_mkM _ _ _ _
theorem sortLanes_v (v : Value) (l l' : List S36) (base : Nat) (w : World) (hR : Kd.R k36 36 w base (fun _ => True) v l) (h : lanes_Sorted.f l = some l') :
    Calls Try.prog 78 #[v, .func (.func 79) #[] #[]] w fun e w' => e = .returned (.tuple #[]) ∧ Kd.R k36 36 w' base (fun _ => True) v l' ∧ w.grownBy w' v.ownBlock := by
  obtain ⟨A, c, e⟩ := Kd.R_slice hR
  subst e
  refine (sortLanes_calls A c l l' base w hR h).mono fun e w' hh => ?_
  exact ⟨hh.1, hh.2.1, hh.2.2.2⟩
end Go.Proofs.Ytjgbdicbdlollaa.B
namespace Go.Proofs.Ytjgbdicbdlollaa.B
open Go.RowKit Go.Proofs.YtjgbdicbdlollaaW.PrintWords Go.Proofs.YtjgbdicbdlollaaW.PrintLast Go.Proofs.YtjgbdicbdlollaaW.PrintMore
attribute [local go_sem] max2_int min2_int max_two min_two max_three min_three max_four min_four   -- for this text's walks alone
set_option linter.unusedVariables false
set_option linter.unusedSimpArgs false
def ratio_Of.f (k : Nat) (a0 : Int) (a1 : Int) : Option (Int × Int) := (ratio_divisor.f k a0 a1).bind fun t359 => (if a1 < 0 then (if (wrap64 (-t359)) = 0 then (none) else (some (wrap64 (Int.tdiv a0 (wrap64 (-t359))), wrap64 (Int.tdiv a1 (wrap64 (-t359)))))) else (if t359 = 0 then (none) else (some (wrap64 (Int.tdiv a0 t359), wrap64 (Int.tdiv a1 t359)))))
theorem ratio_Of.mono : ∀ a0 a1 k, LeO (ratio_Of.f k a0 a1) (ratio_Of.f (k + 1) a0 a1) := by
  intro a0 a1 k
  unfold ratio_Of.f
  repeat' first
      | (with_reducible exact ratio_divisor.mono _ _ _)
      | (with_reducible exact LeO.refl _)
      | (with_reducible exact LeO.none _)
      | (with_reducible refine LeO.ite ?_ ?_)
      | (with_reducible refine LeO.bind ?_ (fun _ => ?_))
      | exact ratio_divisor.mono _ _ _
      | exact LeO.none _
      | refine LeO.ite ?_ ?_
      | refine LeO.bind ?_ (fun _ => ?_)
def ratio_Of.T4 : Bool × List (List Nat × List Nat) := (true, [([], []), ([], []), ([0, 1], [0, 1]), ([], []), ([], []), ([3, 4], [3, 4]), ([2, 5], [2, 5]), ([6, 0, 1, 2, 3, 4, 5, 6], [6])])
def ratio_Of.B4 : List Nat := [0, 0, 3, 0, 0, 24, 63, 127]
theorem ratio_Of.tab4 : rtab .any (opsOf Try.f81 4) = ratio_Of.T4 := by kernel_rfl
theorem ratio_Of.bits4 : waitsOk ratio_Of.T4.2 ratio_Of.B4 = true := by kernel_rfl
set_option maxHeartbeats 8000000 in
set_option maxRecDepth 100000 in
theorem ratio_Of.calls (k : Nat) (a0 : Int) (a1 : Int) (r1 : Int) (r2 : Int) (w : World) (h : ratio_Of.f k a0 a1 = some (r1, r2)) :
  Calls Try.prog 81 #[.int .i64 a0, .int .i64 a1] w fun e w' => e = .returned (.agg #[.int .i64 r1, .int .i64 r2]) ∧ Below w.heap.size w w' := by
 have hu28 := Try.underlying28
 have HB := Aside0.mk (Below.refl w.heap.size w)
 have H : ((ratio_divisor.f k a0 a1).bind fun t359 => (if a1 < 0 then (if (wrap64 (-t359)) = 0 then (none) else (some (wrap64 (Int.tdiv a0 (wrap64 (-t359))), wrap64 (Int.tdiv a1 (wrap64 (-t359)))))) else (if t359 = 0 then (none) else (some (wrap64 (Int.tdiv a0 t359), wrap64 (Int.tdiv a1 t359)))))) = some (r1, r2) := h
 clear h
 replace H := Option.bind_eq_some_iff.mp H
 obtain ⟨t359, A30, H⟩ := H
 replace H : (if a1 < 0 then (if (wrap64 (-t359)) = 0 then (none) else (some (wrap64 (Int.tdiv a0 (wrap64 (-t359))), wrap64 (Int.tdiv a1 (wrap64 (-t359)))))) else (if t359 = 0 then (none) else (some (wrap64 (Int.tdiv a0 t359), wrap64 (Int.tdiv a1 t359))))) = some (r1, r2) := H
 have A3 := Aside0.mk A30
 clear A30
 by_cases c4 : a1 < 0
 ·rw [if_pos c4] at H
  have c4b0 : decide (a1 < 0) = true := decide_eq_true c4
  clear c4
  by_cases c5 : (wrap64 (-t359)) = 0
  ·rw [if_pos c5] at H
   exact absurd H (by simp)
  ·rw [if_neg c5] at H
   have c5b0 : ((wrap64 (-t359)) == 0) = false := beq_eq_false_iff_ne.mpr c5
   have c5b1 : ((wrap64 (-t359)) != 0) = true := bne_iff_ne.mpr c5
   simp only [Option.some.injEq, Prod.mk.injEq] at H
   obtain ⟨rfl, rfl⟩ := H
   go_enter Try.func81, Try.ntmps81
   try go_wp2_with (first | ((with_reducible refine gate_dst (N := 4) rfl ?_); refine box_event ?hg (N := 4) ?hd (cs := #[.int .i64 0, .int .i64 0]) (t := 28) ?hr ?_; (case hd => rfl); (case hg => rfl); (case hr => first | (go_simp; done) | (go_simp; rfl)); intro gb358 hg w6 hbox hb; have n0_ := Aside0.mk (below_step (by repeat (first | (with_reducible first | exact HB.out | apply below_alloc | apply pw_below_drewN | apply below_drew1) | exact HB.out)) hb); have n1_ := Aside0.mk (hbox); have n2_ := Aside0.mk ((by rw [hg]; exact (below_size (by repeat (first | (with_reducible first | exact HB.out | apply below_alloc | apply pw_below_drewN | apply below_drew1) | exact HB.out))) : w.heap.size ≤ gb358)); have n3_ := Aside0.mk ((by rw [hg]; exact (below_size (by repeat (first | (with_reducible first | exact HB.out | apply below_alloc | apply pw_below_drewN | apply below_drew1) | exact HB.out))) : w.heap.size ≤ gb358)); clear HB; have HB := n0_; have BK358 := n1_; have GW358 := n2_; have GE358 := n3_; clear n0_ n1_ n2_ n3_; clear hb hbox hg) | ((with_reducible refine gate_callee (f := 99) rfl ?_); refine goesL_ (some 8) rfl rfl Try.func99 (by kernel_rfl) rfl #[.int .i64 a0, .int .i64 a1] rfl (by (try simp only [List.map_toArray, List.map_cons, List.map_nil]); first | done | rfl | (simp only [List.length_drop, List.length_take]; rfl)) ?_; (with_reducible refine (ratio_divisor.calls k a0 a1 t359 _ A3.out).mono ?_); rintro e w7 ⟨rfl, hb⟩; refine ⟨_, rfl, ?_⟩; have n0_ := Aside0.mk (blk_below (g := gb358) (o := .cells #[.int .i64 0, .int .i64 0] 28 (0, 0)) (by (with_reducible repeat (first | refine blk_drewN ?_ _ | refine blk_drew ?_ | refine blk_alloc ?_ _)); exact BK358.out) hb); have n1_ := Aside0.mk (below_step (by repeat (first | (with_reducible first | exact HB.out | apply below_alloc | apply pw_below_drewN | apply below_drew1 | refine below_set ?_ GE358.out) | exact HB.out)) hb); clear BK358; clear HB; have BK358 := n0_; have HB := n1_; clear n0_ n1_; (try clear hb); (try clear hb2); (try clear hk); (try clear hi)))
   have n0_ := Aside0.mk (blk_drew BK358.out)
   have n1_ := Aside0.mk (below_drew1 HB.out)
   clear BK358
   clear HB
   have BK358 := n0_
   have HB := n1_
   clear n0_ n1_
   refine start_ (n := 8) (S := fun w' => True) (ds := []) #[false, false, false, false, false, false, false, false] (by kernel_rfl) rfl rfl trivial (fun hHeld => ?_); refine with_tabW ratio_Of.tab4 ratio_Of.bits4 (fun HT_ HW_ => ?_)
   generalize w7.drew = w8 at BK358 HB hHeld ⊢
   refine pure_ (i := 0) (N := some 13) (v := ?_) (a' := ?_) #[true, false, false, false, false, false, false, false] rfl rfl (any_of HT_.out (by kernel_rfl)) (fun _ _ _ h => h) (Or.inl ⟨by rfl, ?_⟩) ?_ ?_
   rotate_left
   ·intro w'
    go_simp
    with_reducible rfl
   rotate_left
   ·simp only [Act.put, List.setIfInBounds_toArray, List.set_cons_zero, List.set_cons_succ, i64_w, i32_w]
    rfl
   refine pure_ (i := 1) (N := some 14) (v := ?_) (a' := ?_) #[true, true, false, false, false, false, false, false] rfl rfl (any_of HT_.out (by kernel_rfl)) (fun _ _ _ h => h) (Or.inl ⟨by rfl, ?_⟩) ?_ ?_
   rotate_left
   ·intro w'
    go_simp
    with_reducible rfl
   rotate_left
   ·simp only [Act.put, List.setIfInBounds_toArray, List.set_cons_zero, List.set_cons_succ, i64_w, i32_w]
    rfl
   refine pure_ (i := 2) (N := some 15) (v := ?_) (a' := ?_) #[true, true, true, false, false, false, false, false] rfl rfl (any_of HT_.out (by kernel_rfl)) (fun _ _ _ h => h) (Or.inl ⟨by rfl, ?_⟩) ?_ ?_
   rotate_left
   ·intro w'
    go_simp
    with_reducible rfl
   rotate_left
   ·simp only [Act.put, List.setIfInBounds_toArray, List.set_cons_zero, List.set_cons_succ, i64_w, i32_w]
    rfl
   refine pure_ (i := 3) (N := some 16) (v := ?_) (a' := ?_) #[true, true, true, true, false, false, false, false] rfl rfl (any_of HT_.out (by kernel_rfl)) (fun _ _ _ h => h) (Or.inl ⟨by rfl, ?_⟩) ?_ ?_
   rotate_left
   ·intro w'
    go_simp
    with_reducible rfl
   rotate_left
   ·simp only [Act.put, List.setIfInBounds_toArray, List.set_cons_zero, List.set_cons_succ, i64_w, i32_w]
    rfl
   refine pure_ (i := 4) (N := some 17) (v := ?_) (a' := ?_) #[true, true, true, true, true, false, false, false] rfl rfl (any_of HT_.out (by kernel_rfl)) (fun _ _ _ h => h) (Or.inl ⟨by rfl, ?_⟩) ?_ ?_
   rotate_left
   ·intro w'
    go_simp
    with_reducible rfl
   rotate_left
   ·simp only [Act.put, List.setIfInBounds_toArray, List.set_cons_zero, List.set_cons_succ, i64_w, i32_w]
    rfl
   refine pure_ (i := 5) (N := some 18) (v := ?_) (a' := ?_) #[true, true, true, true, true, true, false, false] rfl rfl (any_of HT_.out (by kernel_rfl)) (fun _ _ _ h => h) (Or.inl ⟨by rfl, ?_⟩) ?_ ?_
   rotate_left
   ·intro w'
    go_simp
    with_reducible rfl
   rotate_left
   ·simp only [Act.put, List.setIfInBounds_toArray, List.set_cons_zero, List.set_cons_succ, i64_w, i32_w]
    rfl
   refine pure_ (i := 6) (N := some 19) (v := ?_) (a' := ?_) #[true, true, true, true, true, true, true, false] rfl rfl (any_of HT_.out (by kernel_rfl)) (fun _ _ _ h => h) (Or.inl ⟨by rfl, ?_⟩) ?_ ?_
   rotate_left
   ·intro w'
    go_simp
    with_reducible rfl
   rotate_left
   ·simp only [Act.put, List.setIfInBounds_toArray, List.set_cons_zero, List.set_cons_succ, i64_w, i32_w]
    rfl
   refine one_ (i := 7) (N := none) #[true, true, true, true, true, true, true, true] rfl rfl (one_of HT_.out (by kernel_rfl)) (by decide) (fun K hK => ?_)
   have hs9 : w8.cell? ⟨gb358, 0, none⟩ = some (.int .i64 0) := (blk_cell BK358.out 0).trans rfl
   have hfs9 := blk_frozen BK358.out 0
   have hs10 : w8.cell? ⟨gb358, 1, none⟩ = some (.int .i64 0) := (blk_cell BK358.out 1).trans rfl
   have hfs10 := blk_frozen BK358.out 1
   refine skip_ (w1 := ?_) (by rfl) rfl ?_ ?_
   rotate_left
   ·go_simp
    rfl
   refine hK.out _ _ trivial (fun hHeld => ?_)
   clear hK K
   refine done_ (done_of HT_.out (by kernel_rfl)) ?_
   try go_wp2
   refine bodyPost_ret (results_cell_row rfl _ _ gb358 28 #[.int .i64 (wrap64 (Int.tdiv a0 (wrap64 (-t359)))), .int .i64 (wrap64 (Int.tdiv a1 (wrap64 (-t359))))] (0, 0) _ rfl (by (with_reducible repeat (first | refine blk_drewN ?_ _ | refine blk_drew ?_ | refine blk_alloc ?_ _)); refine blk_put (cs := #[.int .i64 (wrap64 (Int.tdiv a0 (wrap64 (-t359)))), .int .i64 0]) ?_ 1 _ rfl; (with_reducible repeat (first | refine blk_drewN ?_ _ | refine blk_drew ?_ | refine blk_alloc ?_ _)); refine blk_put (cs := #[.int .i64 0, .int .i64 0]) ?_ 0 _ rfl; (with_reducible repeat (first | refine blk_drewN ?_ _ | refine blk_drew ?_ | refine blk_alloc ?_ _)); exact BK358.out) Try.underlying28 rfl (by kernel_rfl)) rfl ?_
   exact ⟨by first | rfl | (simp [errW_none, errW_some] <;> rfl) | (simp [*, errW_none, errW_some] <;> rfl), by repeat (first | (with_reducible first | exact HB.out | apply below_alloc | apply pw_below_drewN | apply below_drew1 | refine below_set ?_ GE358.out) | exact HB.out)⟩
 ·rw [if_neg c4] at H
  have c4b0 : decide (a1 < 0) = false := decide_eq_false c4
  clear c4
  by_cases c11 : t359 = 0
  ·rw [if_pos c11] at H
   exact absurd H (by simp)
  ·rw [if_neg c11] at H
   have c11b0 : (t359 == 0) = false := beq_eq_false_iff_ne.mpr c11
   have c11b1 : (t359 != 0) = true := bne_iff_ne.mpr c11
   simp only [Option.some.injEq, Prod.mk.injEq] at H
   obtain ⟨rfl, rfl⟩ := H
   go_enter Try.func81, Try.ntmps81
   try go_wp2_with (first | ((with_reducible refine gate_dst (N := 4) rfl ?_); refine box_event ?hg (N := 4) ?hd (cs := #[.int .i64 0, .int .i64 0]) (t := 28) ?hr ?_; (case hd => rfl); (case hg => rfl); (case hr => first | (go_simp; done) | (go_simp; rfl)); intro gb358 hg w12 hbox hb; have n0_ := Aside0.mk (below_step (by repeat (first | (with_reducible first | exact HB.out | apply below_alloc | apply pw_below_drewN | apply below_drew1) | exact HB.out)) hb); have n1_ := Aside0.mk (hbox); have n2_ := Aside0.mk ((by rw [hg]; exact (below_size (by repeat (first | (with_reducible first | exact HB.out | apply below_alloc | apply pw_below_drewN | apply below_drew1) | exact HB.out))) : w.heap.size ≤ gb358)); have n3_ := Aside0.mk ((by rw [hg]; exact (below_size (by repeat (first | (with_reducible first | exact HB.out | apply below_alloc | apply pw_below_drewN | apply below_drew1) | exact HB.out))) : w.heap.size ≤ gb358)); clear HB; have HB := n0_; have BK358 := n1_; have GW358 := n2_; have GE358 := n3_; clear n0_ n1_ n2_ n3_; clear hb hbox hg) | ((with_reducible refine gate_callee (f := 99) rfl ?_); refine goesL_ (some 8) rfl rfl Try.func99 (by kernel_rfl) rfl #[.int .i64 a0, .int .i64 a1] rfl (by (try simp only [List.map_toArray, List.map_cons, List.map_nil]); first | done | rfl | (simp only [List.length_drop, List.length_take]; rfl)) ?_; (with_reducible refine (ratio_divisor.calls k a0 a1 t359 _ A3.out).mono ?_); rintro e w13 ⟨rfl, hb⟩; refine ⟨_, rfl, ?_⟩; have n0_ := Aside0.mk (blk_below (g := gb358) (o := .cells #[.int .i64 0, .int .i64 0] 28 (0, 0)) (by (with_reducible repeat (first | refine blk_drewN ?_ _ | refine blk_drew ?_ | refine blk_alloc ?_ _)); exact BK358.out) hb); have n1_ := Aside0.mk (below_step (by repeat (first | (with_reducible first | exact HB.out | apply below_alloc | apply pw_below_drewN | apply below_drew1 | refine below_set ?_ GE358.out) | exact HB.out)) hb); clear BK358; clear HB; have BK358 := n0_; have HB := n1_; clear n0_ n1_; (try clear hb); (try clear hb2); (try clear hk); (try clear hi)))
   have n0_ := Aside0.mk (blk_drew BK358.out)
   have n1_ := Aside0.mk (below_drew1 HB.out)
   clear BK358
   clear HB
   have BK358 := n0_
   have HB := n1_
   clear n0_ n1_
   refine start_ (n := 8) (S := fun w' => True) (ds := []) #[false, false, false, false, false, false, false, false] (by kernel_rfl) rfl rfl trivial (fun hHeld => ?_); refine with_tabW ratio_Of.tab4 ratio_Of.bits4 (fun HT_ HW_ => ?_)
   generalize w13.drew = w14 at BK358 HB hHeld ⊢
   refine pure_ (i := 0) (N := some 13) (v := ?_) (a' := ?_) #[true, false, false, false, false, false, false, false] rfl rfl (any_of HT_.out (by kernel_rfl)) (fun _ _ _ h => h) (Or.inl ⟨by rfl, ?_⟩) ?_ ?_
   rotate_left
   ·intro w'
    go_simp
    with_reducible rfl
   rotate_left
   ·simp only [Act.put, List.setIfInBounds_toArray, List.set_cons_zero, List.set_cons_succ, i64_w, i32_w]
    rfl
   refine pure_ (i := 1) (N := some 14) (v := ?_) (a' := ?_) #[true, true, false, false, false, false, false, false] rfl rfl (any_of HT_.out (by kernel_rfl)) (fun _ _ _ h => h) (Or.inl ⟨by rfl, ?_⟩) ?_ ?_
   rotate_left
   ·intro w'
    go_simp
    with_reducible rfl
   rotate_left
   ·simp only [Act.put, List.setIfInBounds_toArray, List.set_cons_zero, List.set_cons_succ, i64_w, i32_w]
    rfl
   refine pure_ (i := 2) (N := some 15) (v := ?_) (a' := ?_) #[true, true, true, false, false, false, false, false] rfl rfl (any_of HT_.out (by kernel_rfl)) (fun _ _ _ h => h) (Or.inl ⟨by rfl, ?_⟩) ?_ ?_
   rotate_left
   ·intro w'
    go_simp
    with_reducible rfl
   rotate_left
   ·simp only [Act.put, List.setIfInBounds_toArray, List.set_cons_zero, List.set_cons_succ, i64_w, i32_w]
    rfl
   refine pure_ (i := 3) (N := some 16) (v := ?_) (a' := ?_) #[true, true, true, true, false, false, false, false] rfl rfl (any_of HT_.out (by kernel_rfl)) (fun _ _ _ h => h) (Or.inl ⟨by rfl, ?_⟩) ?_ ?_
   rotate_left
   ·intro w'
    go_simp
    with_reducible rfl
   rotate_left
   ·simp only [Act.put, List.setIfInBounds_toArray, List.set_cons_zero, List.set_cons_succ, i64_w, i32_w]
    rfl
   refine pure_ (i := 4) (N := some 17) (v := ?_) (a' := ?_) #[true, true, true, true, true, false, false, false] rfl rfl (any_of HT_.out (by kernel_rfl)) (fun _ _ _ h => h) (Or.inl ⟨by rfl, ?_⟩) ?_ ?_
   rotate_left
   ·intro w'
    go_simp
    with_reducible rfl
   rotate_left
   ·simp only [Act.put, List.setIfInBounds_toArray, List.set_cons_zero, List.set_cons_succ, i64_w, i32_w]
    rfl
   refine pure_ (i := 5) (N := some 18) (v := ?_) (a' := ?_) #[true, true, true, true, true, true, false, false] rfl rfl (any_of HT_.out (by kernel_rfl)) (fun _ _ _ h => h) (Or.inl ⟨by rfl, ?_⟩) ?_ ?_
   rotate_left
   ·intro w'
    go_simp
    with_reducible rfl
   rotate_left
   ·simp only [Act.put, List.setIfInBounds_toArray, List.set_cons_zero, List.set_cons_succ, i64_w, i32_w]
    rfl
   refine pure_ (i := 6) (N := some 19) (v := ?_) (a' := ?_) #[true, true, true, true, true, true, true, false] rfl rfl (any_of HT_.out (by kernel_rfl)) (fun _ _ _ h => h) (Or.inl ⟨by rfl, ?_⟩) ?_ ?_
   rotate_left
   ·intro w'
    go_simp
    with_reducible rfl
   rotate_left
   ·simp only [Act.put, List.setIfInBounds_toArray, List.set_cons_zero, List.set_cons_succ, i64_w, i32_w]
    rfl
   refine one_ (i := 7) (N := none) #[true, true, true, true, true, true, true, true] rfl rfl (one_of HT_.out (by kernel_rfl)) (by decide) (fun K hK => ?_)
   have hs15 : w14.cell? ⟨gb358, 0, none⟩ = some (.int .i64 0) := (blk_cell BK358.out 0).trans rfl
   have hfs15 := blk_frozen BK358.out 0
   have hs16 : w14.cell? ⟨gb358, 1, none⟩ = some (.int .i64 0) := (blk_cell BK358.out 1).trans rfl
   have hfs16 := blk_frozen BK358.out 1
   refine skip_ (w1 := ?_) (by rfl) rfl ?_ ?_
   rotate_left
   ·go_simp
    rfl
   refine hK.out _ _ trivial (fun hHeld => ?_)
   clear hK K
   refine done_ (done_of HT_.out (by kernel_rfl)) ?_
   try go_wp2
   refine bodyPost_ret (results_cell_row rfl _ _ gb358 28 #[.int .i64 (wrap64 (Int.tdiv a0 t359)), .int .i64 (wrap64 (Int.tdiv a1 t359))] (0, 0) _ rfl (by (with_reducible repeat (first | refine blk_drewN ?_ _ | refine blk_drew ?_ | refine blk_alloc ?_ _)); refine blk_put (cs := #[.int .i64 (wrap64 (Int.tdiv a0 t359)), .int .i64 0]) ?_ 1 _ rfl; (with_reducible repeat (first | refine blk_drewN ?_ _ | refine blk_drew ?_ | refine blk_alloc ?_ _)); refine blk_put (cs := #[.int .i64 0, .int .i64 0]) ?_ 0 _ rfl; (with_reducible repeat (first | refine blk_drewN ?_ _ | refine blk_drew ?_ | refine blk_alloc ?_ _)); exact BK358.out) Try.underlying28 rfl (by kernel_rfl)) rfl ?_
   exact ⟨by first | rfl | (simp [errW_none, errW_some] <;> rfl) | (simp [*, errW_none, errW_some] <;> rfl), by repeat (first | (with_reducible first | exact HB.out | apply below_alloc | apply pw_below_drewN | apply below_drew1 | refine below_set ?_ GE358.out) | exact HB.out)⟩
end Go.Proofs.Ytjgbdicbdlollaa.B
namespace Go.Proofs.Ytjgbdicbdlollaa.B
open Go.RowKit Go.Proofs.YtjgbdicbdlollaaW.PrintWords Go.Proofs.YtjgbdicbdlollaaW.PrintLast Go.Proofs.YtjgbdicbdlollaaW.PrintMore
attribute [local go_sem] max2_int min2_int max_two min_two max_three min_three max_four min_four   -- for this text's walks alone
set_option linter.unusedVariables false
set_option linter.unusedSimpArgs false
mutual
def jam_balance.l0 : Nat → List (S36) → Int → Int → List (S36) → Int → Int → Option (List Int × Int × Int × Int)
  | 0, _, _, _, _, _, _ => none
  | k + 1, x0, x1, x6, x18, x19, x20 => if x20 < x19 then (if 0 ≤ x20 then (if x20 < (x18.length : Int) then (jam_balance.l0 k x0 x1 (wrap64 (x6 * (wrap64 (((rd_T36 x18 x20).f1) * x1)))) x18 x19 (wrap64 (x20 + 1))) else (none)) else (none)) else ((lanes_Sorted.f x0).bind fun t105 => (jam_balance.l1 k x0 x1 x6 x6 0 t105 (t105.length : Int) 0))
def jam_balance.j2 : Nat → List (S36) → Int → Int → Int → Int → Option (List Int × Int × Int × Int)
  | 0, _, _, _, _, _ => none
  | k + 1, x0, x1, x6, x10, x11 => jam_balance.l2 k x1 x6 x10 x11 ([] : List Int) x0 (x0.length : Int) 0
def jam_balance.l2 : Nat → Int → Int → Int → Int → List Int → List (S36) → Int → Int → Option (List Int × Int × Int × Int)
  | 0, _, _, _, _, _, _, _, _ => none
  | k + 1, x1, x6, x10, x11, x15, x68, x69, x70 => if x70 < x69 then (if 0 ≤ x70 then (if x70 < (x68.length : Int) then (if (wrap64 (((rd_T36 x68 x70).f1) * x1)) = 0 then (none) else (if x15.length < 17592186044416 then (jam_balance.l2 k x1 x6 x10 x11 (x15 ++ [wrap64 ((mx 0 (wrap64 (x10 - (wrap64 (((rd_T36 x68 x70).f0) * x11))))) * (wrap64 (Int.tdiv x6 (wrap64 (((rd_T36 x68 x70).f1) * x1)))))]) x68 x69 (wrap64 (x70 + 1))) else (none))) else (none)) else (none)) else ((ratio_Parts.f k x15 (wrap64 (x11 * x6))).bind fun bt115 => ((ratio_Of.f k x10 x11).bind fun bt119 => (some (bt115.1, bt115.2, bt119.1, bt119.2))))
def jam_balance.l1 : Nat → List (S36) → Int → Int → Int → Int → List (S36) → Int → Int → Option (List Int × Int × Int × Int)
  | 0, _, _, _, _, _, _, _, _ => none
  | k + 1, x0, x1, x6, x10, x11, x36, x37, x38 => if x38 < x37 then (if 0 ≤ x38 then (if x38 < (x36.length : Int) then (if x11 > 0 then (if (wrap64 (((rd_T36 x36 x38).f0) * x11)) ≥ x10 then (jam_balance.j2 k x0 x1 x6 x10 x11) else (if (wrap64 (((rd_T36 x36 x38).f1) * x1)) = 0 then (none) else (jam_balance.l1 k x0 x1 x6 (wrap64 (x10 + (wrap64 (((rd_T36 x36 x38).f0) * (wrap64 (Int.tdiv x6 (wrap64 (((rd_T36 x36 x38).f1) * x1)))))))) (wrap64 (x11 + (wrap64 (Int.tdiv x6 (wrap64 (((rd_T36 x36 x38).f1) * x1)))))) x36 x37 (wrap64 (x38 + 1))))) else (if (wrap64 (((rd_T36 x36 x38).f1) * x1)) = 0 then (none) else (jam_balance.l1 k x0 x1 x6 (wrap64 (x10 + (wrap64 (((rd_T36 x36 x38).f0) * (wrap64 (Int.tdiv x6 (wrap64 (((rd_T36 x36 x38).f1) * x1)))))))) (wrap64 (x11 + (wrap64 (Int.tdiv x6 (wrap64 (((rd_T36 x36 x38).f1) * x1)))))) x36 x37 (wrap64 (x38 + 1))))) else (none)) else (none)) else (jam_balance.j2 k x0 x1 x6 x10 x11)
end
def jam_balance.f (k : Nat) (l0 : List (S36)) (a1 : Int) : Option (List Int × Int × Int × Int) := jam_balance.l0 k l0 a1 1 l0 (l0.length : Int) 0
theorem jam_balance.mono_l : ∀ k, (∀ y0 y1 y2 y3 y4 y5, LeO (jam_balance.l0 k y0 y1 y2 y3 y4 y5) (jam_balance.l0 (k + 1) y0 y1 y2 y3 y4 y5)) ∧ (∀ y0 y1 y2 y3 y4, LeO (jam_balance.j2 k y0 y1 y2 y3 y4) (jam_balance.j2 (k + 1) y0 y1 y2 y3 y4)) ∧ (∀ y0 y1 y2 y3 y4 y5 y6 y7, LeO (jam_balance.l2 k y0 y1 y2 y3 y4 y5 y6 y7) (jam_balance.l2 (k + 1) y0 y1 y2 y3 y4 y5 y6 y7)) ∧ (∀ y0 y1 y2 y3 y4 y5 y6 y7, LeO (jam_balance.l1 k y0 y1 y2 y3 y4 y5 y6 y7) (jam_balance.l1 (k + 1) y0 y1 y2 y3 y4 y5 y6 y7))
  | 0 => ⟨fun _ _ _ _ _ _ r h => by simp [jam_balance.l0] at h, fun _ _ _ _ _ r h => by simp [jam_balance.j2] at h, fun _ _ _ _ _ _ _ _ r h => by simp [jam_balance.l2] at h, fun _ _ _ _ _ _ _ _ r h => by simp [jam_balance.l1] at h⟩
  | k + 1 => by
    obtain ⟨ih0, ih1, ih2, ih3⟩ := jam_balance.mono_l k
    refine ⟨?_, ?_, ?_, ?_⟩
    · intro y0 y1 y2 y3 y4 y5
      unfold jam_balance.l0
      repeat' first
      | (with_reducible exact ih0 _ _ _ _ _ _)
      | (with_reducible exact ih1 _ _ _ _ _)
      | (with_reducible exact ih2 _ _ _ _ _ _ _ _)
      | (with_reducible exact ih3 _ _ _ _ _ _ _ _)
      | (with_reducible exact ratio_Of.mono _ _ _)
      | (with_reducible exact ratio_Parts.mono _ _ _)
      | (with_reducible exact LeO.refl _)
      | (with_reducible exact LeO.none _)
      | (with_reducible refine LeO.ite ?_ ?_)
      | (with_reducible refine LeO.bind ?_ (fun _ => ?_))
      | exact ih0 _ _ _ _ _ _
      | exact ih1 _ _ _ _ _
      | exact ih2 _ _ _ _ _ _ _ _
      | exact ih3 _ _ _ _ _ _ _ _
      | exact ratio_Of.mono _ _ _
      | exact ratio_Parts.mono _ _ _
      | exact LeO.none _
      | refine LeO.ite ?_ ?_
      | refine LeO.bind ?_ (fun _ => ?_)
    · intro y0 y1 y2 y3 y4
      unfold jam_balance.j2
      repeat' first
      | (with_reducible exact ih0 _ _ _ _ _ _)
      | (with_reducible exact ih1 _ _ _ _ _)
      | (with_reducible exact ih2 _ _ _ _ _ _ _ _)
      | (with_reducible exact ih3 _ _ _ _ _ _ _ _)
      | (with_reducible exact ratio_Of.mono _ _ _)
      | (with_reducible exact ratio_Parts.mono _ _ _)
      | (with_reducible exact LeO.refl _)
      | (with_reducible exact LeO.none _)
      | (with_reducible refine LeO.ite ?_ ?_)
      | (with_reducible refine LeO.bind ?_ (fun _ => ?_))
      | exact ih0 _ _ _ _ _ _
      | exact ih1 _ _ _ _ _
      | exact ih2 _ _ _ _ _ _ _ _
      | exact ih3 _ _ _ _ _ _ _ _
      | exact ratio_Of.mono _ _ _
      | exact ratio_Parts.mono _ _ _
      | exact LeO.none _
      | refine LeO.ite ?_ ?_
      | refine LeO.bind ?_ (fun _ => ?_)
    · intro y0 y1 y2 y3 y4 y5 y6 y7
      unfold jam_balance.l2
      repeat' first
      | (with_reducible exact ih0 _ _ _ _ _ _)
      | (with_reducible exact ih1 _ _ _ _ _)
      | (with_reducible exact ih2 _ _ _ _ _ _ _ _)
      | (with_reducible exact ih3 _ _ _ _ _ _ _ _)
      | (with_reducible exact ratio_Of.mono _ _ _)
      | (with_reducible exact ratio_Parts.mono _ _ _)
      | (with_reducible exact LeO.refl _)
      | (with_reducible exact LeO.none _)
      | (with_reducible refine LeO.ite ?_ ?_)
      | (with_reducible refine LeO.bind ?_ (fun _ => ?_))
      | exact ih0 _ _ _ _ _ _
      | exact ih1 _ _ _ _ _
      | exact ih2 _ _ _ _ _ _ _ _
      | exact ih3 _ _ _ _ _ _ _ _
      | exact ratio_Of.mono _ _ _
      | exact ratio_Parts.mono _ _ _
      | exact LeO.none _
      | refine LeO.ite ?_ ?_
      | refine LeO.bind ?_ (fun _ => ?_)
    · intro y0 y1 y2 y3 y4 y5 y6 y7
      unfold jam_balance.l1
      repeat' first
      | (with_reducible exact ih0 _ _ _ _ _ _)
      | (with_reducible exact ih1 _ _ _ _ _)
      | (with_reducible exact ih2 _ _ _ _ _ _ _ _)
      | (with_reducible exact ih3 _ _ _ _ _ _ _ _)
      | (with_reducible exact ratio_Of.mono _ _ _)
      | (with_reducible exact ratio_Parts.mono _ _ _)
      | (with_reducible exact LeO.refl _)
      | (with_reducible exact LeO.none _)
      | (with_reducible refine LeO.ite ?_ ?_)
      | (with_reducible refine LeO.bind ?_ (fun _ => ?_))
      | exact ih0 _ _ _ _ _ _
      | exact ih1 _ _ _ _ _
      | exact ih2 _ _ _ _ _ _ _ _
      | exact ih3 _ _ _ _ _ _ _ _
      | exact ratio_Of.mono _ _ _
      | exact ratio_Parts.mono _ _ _
      | exact LeO.none _
      | refine LeO.ite ?_ ?_
      | refine LeO.bind ?_ (fun _ => ?_)
theorem jam_balance.mono : ∀ a0 a1 k, LeO (jam_balance.f k a0 a1) (jam_balance.f (k + 1) a0 a1) := by
  intro a0 a1 k
  obtain ⟨ih0, ih1, ih2, ih3⟩ := jam_balance.mono_l k
  unfold jam_balance.f
  repeat' first
      | (with_reducible exact ih0 _ _ _ _ _ _)
      | (with_reducible exact ih1 _ _ _ _ _)
      | (with_reducible exact ih2 _ _ _ _ _ _ _ _)
      | (with_reducible exact ih3 _ _ _ _ _ _ _ _)
      | (with_reducible exact ratio_Of.mono _ _ _)
      | (with_reducible exact ratio_Parts.mono _ _ _)
      | (with_reducible exact LeO.refl _)
      | (with_reducible exact LeO.none _)
      | (with_reducible refine LeO.ite ?_ ?_)
      | (with_reducible refine LeO.bind ?_ (fun _ => ?_))
      | exact ih0 _ _ _ _ _ _
      | exact ih1 _ _ _ _ _
      | exact ih2 _ _ _ _ _ _ _ _
      | exact ih3 _ _ _ _ _ _ _ _
      | exact ratio_Of.mono _ _ _
      | exact ratio_Parts.mono _ _ _
      | exact LeO.none _
      | refine LeO.ite ?_ ?_
      | refine LeO.bind ?_ (fun _ => ?_)
def jam_balance.T22 : Bool × List (List Nat × List Nat) := (true, [([], []), ([], []), ([], []), ([2], [2]), ([], []), ([3, 4], [3, 4]), ([1, 5], [1, 5]), ([6], [6]), ([], []), ([], []), ([9], [9]), ([], []), ([10, 11], [10, 11]), ([8, 12], [8, 12]), ([7, 13], [7, 13]), ([14], [14]), ([0, 15], [0, 15]), ([16, 16, 0, 1, 2, 3, 4, 5, 6, 7, 8, 9, 10, 11, 12, 13, 14, 15, 16], [0, 16])])
def jam_balance.B22 : List Nat := [0, 0, 0, 4, 0, 28, 62, 126, 0, 0, 512, 0, 3584, 7936, 16382, 32766, 65535, 131071]
theorem jam_balance.tab22 : rtab .any (opsOf Try.f49 22) = jam_balance.T22 := by kernel_rfl
theorem jam_balance.bits22 : waitsOk jam_balance.T22.2 jam_balance.B22 = true := by kernel_rfl
set_option maxHeartbeats 8000000 in
set_option maxRecDepth 100000 in
theorem jam_balance.calls (k : Nat) (A0 : Option Addr) (c0 : Nat) (l0 : List (S36)) (a1 : Int) (r1 : List Int) (r2 : Int) (r3 : Int) (r4 : Int) (w : World) (hr0 : Kd.C k36 w A0 l0.length l0) (hc0 : l0.length ≤ c0) (h : jam_balance.f k l0 a1 = some (r1, r2, r3, r4)) :
  Calls Try.prog 49 #[.slice A0 l0.length c0, .int .i64 a1] w fun e w' => ∃ v0_ : Value, e = .returned (.tuple #[.agg #[v0_, .int .i64 r2], .agg #[.int .i64 r3, .int .i64 r4]]) ∧ Kd.R (Kd.int .i64) 3 w' w.heap.size (fun _ => True) v0_ r1 ∧ Below w.heap.size w w' := by
 have hu26 := Try.underlying26
 have hu28 := Try.underlying28
 have hu36 := Try.underlying36
 have HR0 := Aside0.mk hr0
 have HC0 := Aside0.mk hc0
 clear hr0 hc0
 have HB := Aside0.mk (Below.refl w.heap.size w)
 have H : (jam_balance.l0 k l0 a1 1 l0 (l0.length : Int) 0) = some (r1, r2, r3, r4) := h
 clear h
 have H' := Aside0.mk H
 clear H
 go_enter Try.func49, Try.ntmps49
 go_wp2_with (first | ((with_reducible refine gate_dst (N := 4) rfl ?_); refine box_event ?hg (N := 4) ?hd (cs := #[.slice none 0 0, .int .i64 0]) (t := 26) ?hr ?_; (case hd => rfl); (case hg => rfl); (case hr => first | (go_simp; done) | (go_simp; rfl)); intro gb101 hg w3 hbox hb; have n0_ := Aside0.mk (below_step (by repeat (first | (with_reducible first | exact HB.out | apply below_alloc | apply pw_below_drewN | apply below_drew1) | exact HB.out)) hb); have n1_ := Aside0.mk (hbox); have n2_ := Aside0.mk ((by rw [hg]; exact (below_size (by repeat (first | (with_reducible first | exact HB.out | apply below_alloc | apply pw_below_drewN | apply below_drew1) | exact HB.out))) : w.heap.size ≤ gb101)); have n3_ := Aside0.mk ((by rw [hg]; exact (below_size (by repeat (first | (with_reducible first | exact HB.out | apply below_alloc | apply pw_below_drewN | apply below_drew1) | exact HB.out))) : w.heap.size ≤ gb101)); clear HB; have HB := n0_; have BK101 := n1_; have GW101 := n2_; have GE101 := n3_; clear n0_ n1_ n2_ n3_; clear hb hbox hg) | ((with_reducible refine gate_dst (N := 5) rfl ?_); refine box_event ?hg (N := 5) ?hd (cs := #[.int .i64 0, .int .i64 0]) (t := 28) ?hr ?_; (case hd => rfl); (case hg => rfl); (case hr => first | (go_simp; done) | (go_simp; rfl)); intro gb102 hg w4 hbox hb; have n0_ := Aside0.mk (blk_below (g := gb101) (o := .cells #[.slice none 0 0, .int .i64 0] 26 (0, 0)) (by (with_reducible repeat (first | refine blk_drewN ?_ _ | refine blk_drew ?_ | refine blk_alloc ?_ _)); exact BK101.out) hb); have n1_ := Aside0.mk (below_step (by repeat (first | (with_reducible first | exact HB.out | apply below_alloc | apply pw_below_drewN | apply below_drew1 | refine below_set ?_ GE101.out) | exact HB.out)) hb); have n2_ := Aside0.mk (hbox); have n3_ := Aside0.mk ((by rw [hg]; exact (below_size (by repeat (first | (with_reducible first | exact HB.out | apply below_alloc | apply pw_below_drewN | apply below_drew1 | refine below_set ?_ GE101.out) | exact HB.out))) : w.heap.size ≤ gb102)); have n4_ := Aside0.mk ((by rw [hg]; exact (below_size (by repeat (first | (with_reducible first | exact HB.out | apply below_alloc | apply pw_below_drewN | apply below_drew1 | refine below_set ?_ GE101.out) | exact HB.out))) : w.heap.size ≤ gb102)); have n5_ := Aside0.mk ((by rw [hg]; exact Nat.ne_of_lt (blk_lt (g := gb101) (o := .cells #[.slice none 0 0, .int .i64 0] 26 (0, 0)) (by (with_reducible repeat (first | refine blk_drewN ?_ _ | refine blk_drew ?_ | refine blk_alloc ?_ _)); exact BK101.out)) : gb101 ≠ gb102)); have n6_ := Aside0.mk ((by rw [hg]; exact Nat.ne_of_gt (blk_lt (g := gb101) (o := .cells #[.slice none 0 0, .int .i64 0] 26 (0, 0)) (by (with_reducible repeat (first | refine blk_drewN ?_ _ | refine blk_drew ?_ | refine blk_alloc ?_ _)); exact BK101.out)) : gb102 ≠ gb101)); clear BK101; clear HB; have BK101 := n0_; have HB := n1_; have BK102 := n2_; have GW102 := n3_; have GE102 := n4_; have NB101_102 := n5_; have NB102_101 := n6_; clear n0_ n1_ n2_ n3_ n4_ n5_ n6_; clear hb hbox hg))
 go_loopg [6, 20] k (fun kq v6 v20 w' => ∃ (x6_1 : Int) (x20_1 : Int), v6 = .int .i64 x6_1 ∧ v20 = .int .i64 x20_1 ∧ Aside0 (jam_balance.l0 kq l0 a1 x6_1 l0 (l0.length : Int) x20_1 = some (r1, r2, r3, r4)) ∧ Aside0 (kq ≤ k) ∧ Aside0 (w'.heap[gb101]? = some (.cells #[(.slice none 0 0), .int .i64 0] 26 (0, 0))) ∧ Aside0 (w'.heap[gb102]? = some (.cells #[.int .i64 0, .int .i64 0] 28 (0, 0))) ∧ Aside0 (Below w.heap.size w w'))
 case atStart => exact ⟨(1), (0), (by first | rfl | (simp; done) | (simp [*]; done)), (by first | rfl | (simp; done) | (simp [*]; done)), H', ⟨Nat.le_refl _⟩, ⟨by (with_reducible repeat (first | refine blk_drewN ?_ _ | refine blk_drew ?_ | refine blk_alloc ?_ _)); exact BK101.out⟩, ⟨by (with_reducible repeat (first | refine blk_drewN ?_ _ | refine blk_drew ?_ | refine blk_alloc ?_ _)); exact BK102.out⟩, ⟨by repeat (first | (with_reducible first | exact HB.out | apply below_alloc | apply pw_below_drewN | apply below_drew1 | refine below_set ?_ GE101.out | refine below_set ?_ GE102.out) | exact HB.out)⟩⟩
 case round =>
  clear H'
  try clear p2
  try clear c4
  obtain ⟨x6_1, x20_1, rfl, rfl, HA, HK1, BK101, BK102, HB⟩ := hrel
  cases gk with
  | zero => exact absurd HA.out (by simp [jam_balance.l0])
  | succ k1 =>
   have H := HA.out
   clear HA
   simp only [jam_balance.l0] at H
   by_cases c5 : x20_1 < (l0.length : Int)
   ·rw [if_pos c5] at H
    have c5b0 : decide (x20_1 < (l0.length : Int)) = true := decide_eq_true c5
    clear c5
    by_cases c6 : 0 ≤ x20_1
    ·rw [if_pos c6] at H
     have c6b0 : decide (0 ≤ x20_1) = true := decide_eq_true c6
     clear c6
     by_cases c7 : x20_1 < (l0.length : Int)
     ·rw [if_pos c7] at H
      have c7b0 : decide (x20_1 < (l0.length : Int)) = true := decide_eq_true c7
      clear c7
      have H' := Aside0.mk H
      clear H
      have p103 : 0 ≤ (x20_1 : Int) := of_decide_eq_true (by first | (with_reducible assumption) | assumption)
      have q103 : x20_1 < (l0.length : Int) := of_decide_eq_true (by first | (with_reducible assumption) | assumption)
      obtain ⟨ad103, e103, hx103_0, hx103_1⟩ := at_T36 HR0.out x20_1 p103 q103
      cases e103
      replace hx103_0 := (HB.out.cell (World.block_lt_of_cell? w _ hx103_0)).trans hx103_0
      replace hx103_1 := (HB.out.cell (World.block_lt_of_cell? w _ hx103_1)).trans hx103_1
      replace p103 := eq_true p103
      replace q103 := eq_true q103
      go_wp2_with (first | ((with_reducible refine gate_dst (N := 8) rfl ?_); refine box_event ?hg (N := 8) ?hd (cs := #[.int .i64 0, .int .i64 0]) (t := 36) ?hr ?_; (case hd => rfl); (case hg => rfl); (case hr => first | (go_simp; done) | (go_simp; rfl)); intro gb104 hg w8 hbox hb; have n0_ := Aside0.mk (blk_below (g := gb101) (o := .cells #[.slice none 0 0, .int .i64 0] 26 (0, 0)) (by (with_reducible repeat (first | refine blk_drewN ?_ _ | refine blk_drew ?_ | refine blk_alloc ?_ _)); exact BK101.out) hb); have n1_ := Aside0.mk (blk_below (g := gb102) (o := .cells #[.int .i64 0, .int .i64 0] 28 (0, 0)) (by (with_reducible repeat (first | refine blk_drewN ?_ _ | refine blk_drew ?_ | refine blk_alloc ?_ _)); exact BK102.out) hb); have n2_ := Aside0.mk (below_step (by repeat (first | (with_reducible first | exact HB.out | apply below_alloc | apply pw_below_drewN | apply below_drew1 | refine below_set ?_ GE101.out | refine below_set ?_ GE102.out) | exact HB.out)) hb); have n3_ := Aside0.mk (hbox); have n4_ := Aside0.mk ((by rw [hg]; exact (below_size (by repeat (first | (with_reducible first | exact HB.out | apply below_alloc | apply pw_below_drewN | apply below_drew1 | refine below_set ?_ GE101.out | refine below_set ?_ GE102.out) | exact HB.out))) : w.heap.size ≤ gb104)); have n5_ := Aside0.mk ((by rw [hg]; exact (below_size (by repeat (first | (with_reducible first | exact HB.out | apply below_alloc | apply pw_below_drewN | apply below_drew1 | refine below_set ?_ GE101.out | refine below_set ?_ GE102.out) | exact HB.out))) : w.heap.size ≤ gb104)); have n6_ := Aside0.mk ((by rw [hg]; exact Nat.ne_of_lt (blk_lt (g := gb101) (o := .cells #[.slice none 0 0, .int .i64 0] 26 (0, 0)) (by (with_reducible repeat (first | refine blk_drewN ?_ _ | refine blk_drew ?_ | refine blk_alloc ?_ _)); exact BK101.out)) : gb101 ≠ gb104)); have n7_ := Aside0.mk ((by rw [hg]; exact Nat.ne_of_gt (blk_lt (g := gb101) (o := .cells #[.slice none 0 0, .int .i64 0] 26 (0, 0)) (by (with_reducible repeat (first | refine blk_drewN ?_ _ | refine blk_drew ?_ | refine blk_alloc ?_ _)); exact BK101.out)) : gb104 ≠ gb101)); have n8_ := Aside0.mk ((by rw [hg]; exact Nat.ne_of_lt (blk_lt (g := gb102) (o := .cells #[.int .i64 0, .int .i64 0] 28 (0, 0)) (by (with_reducible repeat (first | refine blk_drewN ?_ _ | refine blk_drew ?_ | refine blk_alloc ?_ _)); exact BK102.out)) : gb102 ≠ gb104)); have n9_ := Aside0.mk ((by rw [hg]; exact Nat.ne_of_gt (blk_lt (g := gb102) (o := .cells #[.int .i64 0, .int .i64 0] 28 (0, 0)) (by (with_reducible repeat (first | refine blk_drewN ?_ _ | refine blk_drew ?_ | refine blk_alloc ?_ _)); exact BK102.out)) : gb104 ≠ gb102)); clear BK101; clear BK102; clear HB; have BK101 := n0_; have BK102 := n1_; have HB := n2_; have BK104 := n3_; have GW104 := n4_; have GE104 := n5_; have NB101_104 := n6_; have NB104_101 := n7_; have NB102_104 := n8_; have NB104_102 := n9_; clear n0_ n1_ n2_ n3_ n4_ n5_ n6_ n7_ n8_ n9_; clear hb hbox hg; have hnb9 := NB104_101.out; have hnc9 := NB101_104.out; have hnb10 := NB104_102.out; have hnc10 := NB102_104.out; have hcz11_0 : w8.cell? ⟨gb104, 0, none⟩ = some (.int .i64 0) := (blk_cell BK104.out 0).trans rfl; have hcz11_1 : w8.cell? ⟨gb104, 1, none⟩ = some (.int .i64 0) := (blk_cell BK104.out 1).trans rfl; have hfz11_0 := blk_frozen BK104.out 0; have hfz11_1 := blk_frozen BK104.out 1))
      go_roundg k1
      case measure => have := HK1.out; omega
      case rel => exact ⟨(wrap64 (x6_1 * (wrap64 (((rd_T36 l0 x20_1).f1) * a1)))), (wrap64 (x20_1 + 1)), (by first | rfl | (simp; done) | (simp [*]; done)), (by first | rfl | (simp; done) | (simp [*]; done)), H', ⟨by have := HK1.out; omega⟩, ⟨by (with_reducible repeat (first | refine blk_drewN ?_ _ | refine blk_drew ?_ | refine blk_alloc ?_ _)); refine blk_far ?_ NB101_104.out _; (with_reducible repeat (first | refine blk_drewN ?_ _ | refine blk_drew ?_ | refine blk_alloc ?_ _)); refine blk_far ?_ NB101_104.out _; (with_reducible repeat (first | refine blk_drewN ?_ _ | refine blk_drew ?_ | refine blk_alloc ?_ _)); exact BK101.out⟩, ⟨by (with_reducible repeat (first | refine blk_drewN ?_ _ | refine blk_drew ?_ | refine blk_alloc ?_ _)); refine blk_far ?_ NB102_104.out _; (with_reducible repeat (first | refine blk_drewN ?_ _ | refine blk_drew ?_ | refine blk_alloc ?_ _)); refine blk_far ?_ NB102_104.out _; (with_reducible repeat (first | refine blk_drewN ?_ _ | refine blk_drew ?_ | refine blk_alloc ?_ _)); exact BK102.out⟩, ⟨by repeat (first | (with_reducible first | exact HB.out | apply below_alloc | apply pw_below_drewN | apply below_drew1 | refine below_set ?_ GE101.out | refine below_set ?_ GE102.out | refine below_set ?_ GE104.out) | exact HB.out)⟩⟩
     ·rw [if_neg c7] at H
      exact absurd H (by simp)
    ·rw [if_neg c6] at H
     exact absurd H (by simp)
   ·rw [if_neg c5] at H
    have c5b0 : decide (x20_1 < (l0.length : Int)) = false := decide_eq_false c5
    clear c5
    replace H := Option.bind_eq_some_iff.mp H
    obtain ⟨t105, A120, H⟩ := H
    replace H : (jam_balance.l1 k1 l0 a1 x6_1 x6_1 0 t105 (t105.length : Int) 0) = some (r1, r2, r3, r4) := H
    have A12 := Aside0.mk A120
    clear A120
    have HC13 := Aside0.mk H
    clear H
    go_upto_block 2 with (first | ((with_reducible refine gate_callee (f := 77) rfl ?_); refine goesL_ (some 32) rfl rfl Try.func77 (by kernel_rfl) rfl #[.slice A0 l0.length c0] rfl (by (try simp only [List.map_toArray, List.map_cons, List.map_nil]); first | done | rfl | (simp only [List.length_drop, List.length_take]; rfl)) ?_; (with_reducible refine (lanes_Clone.calls _ _ l0 l0 _ ?side1 ?side2 (lanes_clone_of A12.out)).mono ?_); (case side1 => repeat (first | exact (Kd.C_below HR0.out HB.out) | (with_reducible refine Kd.C_alloc ?_ _) | (with_reducible refine Kd.C_drewN ?_ _) | (with_reducible refine Kd.C_drew ?_))); (case side2 => exact HC0.out); rintro e wq_ ⟨v106, rfl, hoq_, hbq_⟩; refine ⟨_, rfl, ?_⟩; have HOQ := Aside0.mk hoq_; have HBQ := Aside0.mk hbq_; clear hoq_ hbq_) | (go_at_call 78; (refine (sortLanes_v v106 l0 t105 _ _ HOQ.out A12.out).mono ?_); rintro e w14 ⟨rfl, ho0, hgq_⟩; have hb := HBQ.out.grown hgq_ HBQ.out.size (Kd.R_base HOQ.out); clear hgq_ HBQ HOQ; have n0_ := Aside0.mk (Kd.R_lower ho0 (below_size (by repeat (first | (with_reducible first | exact HB.out | apply below_alloc | apply pw_below_drewN | apply below_drew1 | refine below_set ?_ GE101.out | refine below_set ?_ GE102.out) | exact HB.out)))); have n1_ := Aside0.mk (blk_below (g := gb101) (o := .cells #[.slice none 0 0, .int .i64 0] 26 (0, 0)) (by (with_reducible repeat (first | refine blk_drewN ?_ _ | refine blk_drew ?_ | refine blk_alloc ?_ _)); exact BK101.out) hb); have n2_ := Aside0.mk (blk_below (g := gb102) (o := .cells #[.int .i64 0, .int .i64 0] 28 (0, 0)) (by (with_reducible repeat (first | refine blk_drewN ?_ _ | refine blk_drew ?_ | refine blk_alloc ?_ _)); exact BK102.out) hb); have n3_ := Aside0.mk (below_step (by repeat (first | (with_reducible first | exact HB.out | apply below_alloc | apply pw_below_drewN | apply below_drew1 | refine below_set ?_ GE101.out | refine below_set ?_ GE102.out) | exact HB.out)) hb); clear BK101; clear BK102; clear HB; have HO107 := n0_; have BK101 := n1_; have BK102 := n2_; have HB := n3_; clear n0_ n1_ n2_ n3_; (try clear hb); (try clear hb2); (try clear hk); (try clear hi); (try clear ho0); obtain ⟨Ao15, co15, eo15⟩ := Kd.R_slice HO107.out; subst eo15))
    (try simp only [Act.put, List.setIfInBounds_toArray, List.set_cons_zero, List.set_cons_succ])
    go_cut [10, 11] (fun v10 v11 wc => ∃ (kq : Nat) (x10_12 : Int) (x11_12 : Int), v10 = .int .i64 x10_12 ∧ v11 = .int .i64 x11_12 ∧ Aside0 (jam_balance.j2 kq l0 a1 x6_1 x10_12 x11_12 = some (r1, r2, r3, r4)) ∧ Aside0 (kq ≤ k1) ∧ Aside0 (wc.heap[gb101]? = some (.cells #[(.slice none 0 0), .int .i64 0] 26 (0, 0))) ∧ Aside0 (wc.heap[gb102]? = some (.cells #[.int .i64 0, .int .i64 0] 28 (0, 0))) ∧ Aside0 (Below w.heap.size w wc))
    case first =>
     have H := HC13.out
     clear HC13
     have H' := Aside0.mk H
     clear H
     go_wp2
     go_loopg [10, 11, 38] k1 (fun kq v10 v11 v38 w' => ∃ (x10_2 : Int) (x11_2 : Int) (x38_2 : Int), v10 = .int .i64 x10_2 ∧ v11 = .int .i64 x11_2 ∧ v38 = .int .i64 x38_2 ∧ Aside0 (jam_balance.l1 kq l0 a1 x6_1 x10_2 x11_2 t105 (t105.length : Int) x38_2 = some (r1, r2, r3, r4)) ∧ Aside0 (kq ≤ k1) ∧ Aside0 (Kd.R k36 36 w' w.heap.size (fun _ => True) (.slice Ao15 t105.length co15) t105) ∧ Aside0 (w'.heap[gb101]? = some (.cells #[(.slice none 0 0), .int .i64 0] 26 (0, 0))) ∧ Aside0 (w'.heap[gb102]? = some (.cells #[.int .i64 0, .int .i64 0] 28 (0, 0))) ∧ Aside0 (Below w.heap.size w w'))
     case atStart => exact ⟨(x6_1), (0), (0), (by first | rfl | (simp; done) | (simp [*]; done)), (by first | rfl | (simp; done) | (simp [*]; done)), (by first | rfl | (simp; done) | (simp [*]; done)), H', ⟨Nat.le_refl _⟩, ⟨by (with_reducible repeat (first | apply Kd.R_alloc | apply Kd.R_drewN | apply Kd.R_drew)); exact HO107.out⟩, ⟨by (with_reducible repeat (first | refine blk_drewN ?_ _ | refine blk_drew ?_ | refine blk_alloc ?_ _)); exact BK101.out⟩, ⟨by (with_reducible repeat (first | refine blk_drewN ?_ _ | refine blk_drew ?_ | refine blk_alloc ?_ _)); exact BK102.out⟩, ⟨by repeat (first | (with_reducible first | exact HB.out | apply below_alloc | apply pw_below_drewN | apply below_drew1 | refine below_set ?_ GE101.out | refine below_set ?_ GE102.out) | exact HB.out)⟩⟩
     case round =>
      clear H'
      try clear c1
      try clear p1
      try clear q1
      try clear hx1
      try clear p2
      try clear c4
      try clear c5
      try clear c5b0
      try clear c6
      try clear c6b0
      try clear p6
      try clear c7
      try clear c7b0
      try clear c9
      try clear c10
      try clear p10
      try clear q10
      try clear hx10
      try clear hcz11_0
      try clear hcz11_1
      try clear hfz11_0
      try clear hfz11_1
      try clear hx103_0
      try clear hx103_1
      try clear p103
      try clear p2
      try clear q103
      obtain ⟨x10_2, x11_2, x38_2, rfl, rfl, rfl, HA, HK2, HO_36, BK101, BK102, HB⟩ := hrel
      cases gk with
      | zero => exact absurd HA.out (by simp [jam_balance.l1])
      | succ k2 =>
       have H := HA.out
       clear HA
       simp only [jam_balance.l1] at H
       by_cases c16 : x38_2 < (t105.length : Int)
       ·rw [if_pos c16] at H
        have c16b0 : decide (x38_2 < (t105.length : Int)) = true := decide_eq_true c16
        clear c16
        (first | rw [c16b0] | (simp only [i64_w, i32_w]; rw [c16b0]) | skip)
        by_cases c17 : 0 ≤ x38_2
        ·rw [if_pos c17] at H
         have c17b0 : decide (0 ≤ x38_2) = true := decide_eq_true c17
         clear c17
         by_cases c18 : x38_2 < (t105.length : Int)
         ·rw [if_pos c18] at H
          have c18b0 : decide (x38_2 < (t105.length : Int)) = true := decide_eq_true c18
          clear c18
          by_cases c19 : x11_2 > 0
          ·rw [if_pos c19] at H
           have c19b0 : decide (0 < x11_2) = true := decide_eq_true c19
           clear c19
           by_cases c20 : (wrap64 (((rd_T36 t105 x38_2).f0) * x11_2)) ≥ x10_2
           ·rw [if_pos c20] at H
            have c20b0 : decide (x10_2 ≤ (wrap64 (((rd_T36 t105 x38_2).f0) * x11_2))) = true := decide_eq_true c20
            clear c20
            have H' := Aside0.mk H
            clear H
            have p108 : 0 ≤ (x38_2 : Int) := of_decide_eq_true (by first | (with_reducible assumption) | assumption)
            have q108 : x38_2 < (t105.length : Int) := of_decide_eq_true (by first | (with_reducible assumption) | assumption)
            obtain ⟨ad108, e108, hx108_0, hx108_1⟩ := at_T36 (Kd.R_reads' HO_36.out).2.2 x38_2 p108 q108
            cases e108
            replace p108 := eq_true p108
            replace q108 := eq_true q108
            go_wp2_with (first | ((with_reducible refine gate_dst (N := 13) rfl ?_); refine box_event ?hg (N := 13) ?hd (cs := #[.int .i64 0, .int .i64 0]) (t := 36) ?hr ?_; (case hd => rfl); (case hg => rfl); (case hr => first | (go_simp; done) | (go_simp; rfl)); intro gb109 hg w21 hbox hb; have n0_ := Aside0.mk (Kd.R_below (Kd.R_elderB (by (with_reducible repeat (first | apply Kd.R_alloc | apply Kd.R_drewN | apply Kd.R_drew)); exact HO_36.out) gb109 (Nat.le_of_eq hg.symm)) hb); have n1_ := Aside0.mk (blk_below (g := gb101) (o := .cells #[.slice none 0 0, .int .i64 0] 26 (0, 0)) (by (with_reducible repeat (first | refine blk_drewN ?_ _ | refine blk_drew ?_ | refine blk_alloc ?_ _)); exact BK101.out) hb); have n2_ := Aside0.mk (blk_below (g := gb102) (o := .cells #[.int .i64 0, .int .i64 0] 28 (0, 0)) (by (with_reducible repeat (first | refine blk_drewN ?_ _ | refine blk_drew ?_ | refine blk_alloc ?_ _)); exact BK102.out) hb); have n3_ := Aside0.mk (below_step (by repeat (first | (with_reducible first | exact HB.out | apply below_alloc | apply pw_below_drewN | apply below_drew1 | refine below_set ?_ GE101.out | refine below_set ?_ GE102.out) | exact HB.out)) hb); have n4_ := Aside0.mk (hbox); have n5_ := Aside0.mk ((by rw [hg]; exact (below_size (by repeat (first | (with_reducible first | exact HB.out | apply below_alloc | apply pw_below_drewN | apply below_drew1 | refine below_set ?_ GE101.out | refine below_set ?_ GE102.out) | exact HB.out))) : w.heap.size ≤ gb109)); have n6_ := Aside0.mk ((by rw [hg]; exact (below_size (by repeat (first | (with_reducible first | exact HB.out | apply below_alloc | apply pw_below_drewN | apply below_drew1 | refine below_set ?_ GE101.out | refine below_set ?_ GE102.out) | exact HB.out))) : w.heap.size ≤ gb109)); have n7_ := Aside0.mk ((by rw [hg]; exact Nat.ne_of_lt (blk_lt (g := gb101) (o := .cells #[.slice none 0 0, .int .i64 0] 26 (0, 0)) (by (with_reducible repeat (first | refine blk_drewN ?_ _ | refine blk_drew ?_ | refine blk_alloc ?_ _)); exact BK101.out)) : gb101 ≠ gb109)); have n8_ := Aside0.mk ((by rw [hg]; exact Nat.ne_of_gt (blk_lt (g := gb101) (o := .cells #[.slice none 0 0, .int .i64 0] 26 (0, 0)) (by (with_reducible repeat (first | refine blk_drewN ?_ _ | refine blk_drew ?_ | refine blk_alloc ?_ _)); exact BK101.out)) : gb109 ≠ gb101)); have n9_ := Aside0.mk ((by rw [hg]; exact Nat.ne_of_lt (blk_lt (g := gb102) (o := .cells #[.int .i64 0, .int .i64 0] 28 (0, 0)) (by (with_reducible repeat (first | refine blk_drewN ?_ _ | refine blk_drew ?_ | refine blk_alloc ?_ _)); exact BK102.out)) : gb102 ≠ gb109)); have n10_ := Aside0.mk ((by rw [hg]; exact Nat.ne_of_gt (blk_lt (g := gb102) (o := .cells #[.int .i64 0, .int .i64 0] 28 (0, 0)) (by (with_reducible repeat (first | refine blk_drewN ?_ _ | refine blk_drew ?_ | refine blk_alloc ?_ _)); exact BK102.out)) : gb109 ≠ gb102)); clear HO_36; clear BK101; clear BK102; clear HB; have HO_36 := n0_; have BK101 := n1_; have BK102 := n2_; have HB := n3_; have BK109 := n4_; have GW109 := n5_; have GE109 := n6_; have NB101_109 := n7_; have NB109_101 := n8_; have NB102_109 := n9_; have NB109_102 := n10_; clear n0_ n1_ n2_ n3_ n4_ n5_ n6_ n7_ n8_ n9_ n10_; clear hb hbox hg; have hnb22 := NB109_101.out; have hnc22 := NB101_109.out; have hnb23 := NB109_102.out; have hnc23 := NB102_109.out; have hcz24_0 : w21.cell? ⟨gb109, 0, none⟩ = some (.int .i64 0) := (blk_cell BK109.out 0).trans rfl; have hcz24_1 : w21.cell? ⟨gb109, 1, none⟩ = some (.int .i64 0) := (blk_cell BK109.out 1).trans rfl; have hfz24_0 := blk_frozen BK109.out 0; have hfz24_1 := blk_frozen BK109.out 1))
            go_meet
            case rel => exact ⟨_, (x10_2), (x11_2), (by first | rfl | (simp; done) | (simp [*]; done)), (by first | rfl | (simp; done) | (simp [*]; done)), H', ⟨by have := HK1.out; have := HK2.out; first | omega | exact Nat.le_refl _⟩, ⟨by (with_reducible repeat (first | refine blk_drewN ?_ _ | refine blk_drew ?_ | refine blk_alloc ?_ _)); refine blk_far ?_ NB101_109.out _; (with_reducible repeat (first | refine blk_drewN ?_ _ | refine blk_drew ?_ | refine blk_alloc ?_ _)); refine blk_far ?_ NB101_109.out _; (with_reducible repeat (first | refine blk_drewN ?_ _ | refine blk_drew ?_ | refine blk_alloc ?_ _)); exact BK101.out⟩, ⟨by (with_reducible repeat (first | refine blk_drewN ?_ _ | refine blk_drew ?_ | refine blk_alloc ?_ _)); refine blk_far ?_ NB102_109.out _; (with_reducible repeat (first | refine blk_drewN ?_ _ | refine blk_drew ?_ | refine blk_alloc ?_ _)); refine blk_far ?_ NB102_109.out _; (with_reducible repeat (first | refine blk_drewN ?_ _ | refine blk_drew ?_ | refine blk_alloc ?_ _)); exact BK102.out⟩, ⟨by repeat (first | (with_reducible first | exact HB.out | apply below_alloc | apply pw_below_drewN | apply below_drew1 | refine below_set ?_ GE101.out | refine below_set ?_ GE102.out | refine below_set ?_ GE109.out) | exact HB.out)⟩⟩
           ·rw [if_neg c20] at H
            have c20b0 : decide (x10_2 ≤ (wrap64 (((rd_T36 t105 x38_2).f0) * x11_2))) = false := decide_eq_false c20
            clear c20
            by_cases c25 : (wrap64 (((rd_T36 t105 x38_2).f1) * a1)) = 0
            ·rw [if_pos c25] at H
             exact absurd H (by simp)
            ·rw [if_neg c25] at H
             have c25b0 : ((wrap64 (((rd_T36 t105 x38_2).f1) * a1)) == 0) = false := beq_eq_false_iff_ne.mpr c25
             have c25b1 : ((wrap64 (((rd_T36 t105 x38_2).f1) * a1)) != 0) = true := bne_iff_ne.mpr c25
             have H' := Aside0.mk H
             clear H
             have p108 : 0 ≤ (x38_2 : Int) := of_decide_eq_true (by first | (with_reducible assumption) | assumption)
             have q108 : x38_2 < (t105.length : Int) := of_decide_eq_true (by first | (with_reducible assumption) | assumption)
             obtain ⟨ad108, e108, hx108_0, hx108_1⟩ := at_T36 (Kd.R_reads' HO_36.out).2.2 x38_2 p108 q108
             cases e108
             replace p108 := eq_true p108
             replace q108 := eq_true q108
             go_wp2_with (first | ((with_reducible refine gate_dst (N := 13) rfl ?_); refine box_event ?hg (N := 13) ?hd (cs := #[.int .i64 0, .int .i64 0]) (t := 36) ?hr ?_; (case hd => rfl); (case hg => rfl); (case hr => first | (go_simp; done) | (go_simp; rfl)); intro gb109 hg w26 hbox hb; have n0_ := Aside0.mk (Kd.R_below (Kd.R_elderB (by (with_reducible repeat (first | apply Kd.R_alloc | apply Kd.R_drewN | apply Kd.R_drew)); exact HO_36.out) gb109 (Nat.le_of_eq hg.symm)) hb); have n1_ := Aside0.mk (blk_below (g := gb101) (o := .cells #[.slice none 0 0, .int .i64 0] 26 (0, 0)) (by (with_reducible repeat (first | refine blk_drewN ?_ _ | refine blk_drew ?_ | refine blk_alloc ?_ _)); exact BK101.out) hb); have n2_ := Aside0.mk (blk_below (g := gb102) (o := .cells #[.int .i64 0, .int .i64 0] 28 (0, 0)) (by (with_reducible repeat (first | refine blk_drewN ?_ _ | refine blk_drew ?_ | refine blk_alloc ?_ _)); exact BK102.out) hb); have n3_ := Aside0.mk (below_step (by repeat (first | (with_reducible first | exact HB.out | apply below_alloc | apply pw_below_drewN | apply below_drew1 | refine below_set ?_ GE101.out | refine below_set ?_ GE102.out) | exact HB.out)) hb); have n4_ := Aside0.mk (hbox); have n5_ := Aside0.mk ((by rw [hg]; exact (below_size (by repeat (first | (with_reducible first | exact HB.out | apply below_alloc | apply pw_below_drewN | apply below_drew1 | refine below_set ?_ GE101.out | refine below_set ?_ GE102.out) | exact HB.out))) : w.heap.size ≤ gb109)); have n6_ := Aside0.mk ((by rw [hg]; exact (below_size (by repeat (first | (with_reducible first | exact HB.out | apply below_alloc | apply pw_below_drewN | apply below_drew1 | refine below_set ?_ GE101.out | refine below_set ?_ GE102.out) | exact HB.out))) : w.heap.size ≤ gb109)); have n7_ := Aside0.mk ((by rw [hg]; exact Nat.ne_of_lt (blk_lt (g := gb101) (o := .cells #[.slice none 0 0, .int .i64 0] 26 (0, 0)) (by (with_reducible repeat (first | refine blk_drewN ?_ _ | refine blk_drew ?_ | refine blk_alloc ?_ _)); exact BK101.out)) : gb101 ≠ gb109)); have n8_ := Aside0.mk ((by rw [hg]; exact Nat.ne_of_gt (blk_lt (g := gb101) (o := .cells #[.slice none 0 0, .int .i64 0] 26 (0, 0)) (by (with_reducible repeat (first | refine blk_drewN ?_ _ | refine blk_drew ?_ | refine blk_alloc ?_ _)); exact BK101.out)) : gb109 ≠ gb101)); have n9_ := Aside0.mk ((by rw [hg]; exact Nat.ne_of_lt (blk_lt (g := gb102) (o := .cells #[.int .i64 0, .int .i64 0] 28 (0, 0)) (by (with_reducible repeat (first | refine blk_drewN ?_ _ | refine blk_drew ?_ | refine blk_alloc ?_ _)); exact BK102.out)) : gb102 ≠ gb109)); have n10_ := Aside0.mk ((by rw [hg]; exact Nat.ne_of_gt (blk_lt (g := gb102) (o := .cells #[.int .i64 0, .int .i64 0] 28 (0, 0)) (by (with_reducible repeat (first | refine blk_drewN ?_ _ | refine blk_drew ?_ | refine blk_alloc ?_ _)); exact BK102.out)) : gb109 ≠ gb102)); clear HO_36; clear BK101; clear BK102; clear HB; have HO_36 := n0_; have BK101 := n1_; have BK102 := n2_; have HB := n3_; have BK109 := n4_; have GW109 := n5_; have GE109 := n6_; have NB101_109 := n7_; have NB109_101 := n8_; have NB102_109 := n9_; have NB109_102 := n10_; clear n0_ n1_ n2_ n3_ n4_ n5_ n6_ n7_ n8_ n9_ n10_; clear hb hbox hg; have hnb27 := NB109_101.out; have hnc27 := NB101_109.out; have hnb28 := NB109_102.out; have hnc28 := NB102_109.out; have hcz29_0 : w26.cell? ⟨gb109, 0, none⟩ = some (.int .i64 0) := (blk_cell BK109.out 0).trans rfl; have hcz29_1 : w26.cell? ⟨gb109, 1, none⟩ = some (.int .i64 0) := (blk_cell BK109.out 1).trans rfl; have hfz29_0 := blk_frozen BK109.out 0; have hfz29_1 := blk_frozen BK109.out 1))
             go_roundg k2
             case measure => have := HK1.out; have := HK2.out; omega
             case rel => exact ⟨(wrap64 (x10_2 + (wrap64 (((rd_T36 t105 x38_2).f0) * (wrap64 (Int.tdiv x6_1 (wrap64 (((rd_T36 t105 x38_2).f1) * a1)))))))), (wrap64 (x11_2 + (wrap64 (Int.tdiv x6_1 (wrap64 (((rd_T36 t105 x38_2).f1) * a1)))))), (wrap64 (x38_2 + 1)), (by first | rfl | (simp; done) | (simp [*]; done)), (by first | rfl | (simp; done) | (simp [*]; done)), (by first | rfl | (simp; done) | (simp [*]; done)), H', ⟨by have := HK1.out; have := HK2.out; omega⟩, ⟨by (with_reducible repeat (first | apply Kd.R_alloc | apply Kd.R_drewN | apply Kd.R_drew)); exact Kd.R_mono (Kd.R_far (p := ⟨gb109, 1, none⟩) (Kd.R_far (p := ⟨gb109, 0, none⟩) (Kd.R_mono HO_36.out (fun k_ hk => (⟨hk, hk.2⟩ : _ ∧ k_ ≠ gb109))) (fun _ hk => hk.2) (.int .i64 ((rd_T36 t105 x38_2).f0))) (fun _ hk => hk.2) (.int .i64 ((rd_T36 t105 x38_2).f1))) (fun _ hk => trivial)⟩, ⟨by (with_reducible repeat (first | refine blk_drewN ?_ _ | refine blk_drew ?_ | refine blk_alloc ?_ _)); refine blk_far ?_ NB101_109.out _; (with_reducible repeat (first | refine blk_drewN ?_ _ | refine blk_drew ?_ | refine blk_alloc ?_ _)); refine blk_far ?_ NB101_109.out _; (with_reducible repeat (first | refine blk_drewN ?_ _ | refine blk_drew ?_ | refine blk_alloc ?_ _)); exact BK101.out⟩, ⟨by (with_reducible repeat (first | refine blk_drewN ?_ _ | refine blk_drew ?_ | refine blk_alloc ?_ _)); refine blk_far ?_ NB102_109.out _; (with_reducible repeat (first | refine blk_drewN ?_ _ | refine blk_drew ?_ | refine blk_alloc ?_ _)); refine blk_far ?_ NB102_109.out _; (with_reducible repeat (first | refine blk_drewN ?_ _ | refine blk_drew ?_ | refine blk_alloc ?_ _)); exact BK102.out⟩, ⟨by repeat (first | (with_reducible first | exact HB.out | apply below_alloc | apply pw_below_drewN | apply below_drew1 | refine below_set ?_ GE101.out | refine below_set ?_ GE102.out | refine below_set ?_ GE109.out) | exact HB.out)⟩⟩
          ·rw [if_neg c19] at H
           have c19b0 : decide (0 < x11_2) = false := decide_eq_false c19
           clear c19
           by_cases c30 : (wrap64 (((rd_T36 t105 x38_2).f1) * a1)) = 0
           ·rw [if_pos c30] at H
            exact absurd H (by simp)
           ·rw [if_neg c30] at H
            have c30b0 : ((wrap64 (((rd_T36 t105 x38_2).f1) * a1)) == 0) = false := beq_eq_false_iff_ne.mpr c30
            have c30b1 : ((wrap64 (((rd_T36 t105 x38_2).f1) * a1)) != 0) = true := bne_iff_ne.mpr c30
            have H' := Aside0.mk H
            clear H
            have p108 : 0 ≤ (x38_2 : Int) := of_decide_eq_true (by first | (with_reducible assumption) | assumption)
            have q108 : x38_2 < (t105.length : Int) := of_decide_eq_true (by first | (with_reducible assumption) | assumption)
            obtain ⟨ad108, e108, hx108_0, hx108_1⟩ := at_T36 (Kd.R_reads' HO_36.out).2.2 x38_2 p108 q108
            cases e108
            replace p108 := eq_true p108
            replace q108 := eq_true q108
            go_wp2_with (first | ((with_reducible refine gate_dst (N := 13) rfl ?_); refine box_event ?hg (N := 13) ?hd (cs := #[.int .i64 0, .int .i64 0]) (t := 36) ?hr ?_; (case hd => rfl); (case hg => rfl); (case hr => first | (go_simp; done) | (go_simp; rfl)); intro gb109 hg w31 hbox hb; have n0_ := Aside0.mk (Kd.R_below (Kd.R_elderB (by (with_reducible repeat (first | apply Kd.R_alloc | apply Kd.R_drewN | apply Kd.R_drew)); exact HO_36.out) gb109 (Nat.le_of_eq hg.symm)) hb); have n1_ := Aside0.mk (blk_below (g := gb101) (o := .cells #[.slice none 0 0, .int .i64 0] 26 (0, 0)) (by (with_reducible repeat (first | refine blk_drewN ?_ _ | refine blk_drew ?_ | refine blk_alloc ?_ _)); exact BK101.out) hb); have n2_ := Aside0.mk (blk_below (g := gb102) (o := .cells #[.int .i64 0, .int .i64 0] 28 (0, 0)) (by (with_reducible repeat (first | refine blk_drewN ?_ _ | refine blk_drew ?_ | refine blk_alloc ?_ _)); exact BK102.out) hb); have n3_ := Aside0.mk (below_step (by repeat (first | (with_reducible first | exact HB.out | apply below_alloc | apply pw_below_drewN | apply below_drew1 | refine below_set ?_ GE101.out | refine below_set ?_ GE102.out) | exact HB.out)) hb); have n4_ := Aside0.mk (hbox); have n5_ := Aside0.mk ((by rw [hg]; exact (below_size (by repeat (first | (with_reducible first | exact HB.out | apply below_alloc | apply pw_below_drewN | apply below_drew1 | refine below_set ?_ GE101.out | refine below_set ?_ GE102.out) | exact HB.out))) : w.heap.size ≤ gb109)); have n6_ := Aside0.mk ((by rw [hg]; exact (below_size (by repeat (first | (with_reducible first | exact HB.out | apply below_alloc | apply pw_below_drewN | apply below_drew1 | refine below_set ?_ GE101.out | refine below_set ?_ GE102.out) | exact HB.out))) : w.heap.size ≤ gb109)); have n7_ := Aside0.mk ((by rw [hg]; exact Nat.ne_of_lt (blk_lt (g := gb101) (o := .cells #[.slice none 0 0, .int .i64 0] 26 (0, 0)) (by (with_reducible repeat (first | refine blk_drewN ?_ _ | refine blk_drew ?_ | refine blk_alloc ?_ _)); exact BK101.out)) : gb101 ≠ gb109)); have n8_ := Aside0.mk ((by rw [hg]; exact Nat.ne_of_gt (blk_lt (g := gb101) (o := .cells #[.slice none 0 0, .int .i64 0] 26 (0, 0)) (by (with_reducible repeat (first | refine blk_drewN ?_ _ | refine blk_drew ?_ | refine blk_alloc ?_ _)); exact BK101.out)) : gb109 ≠ gb101)); have n9_ := Aside0.mk ((by rw [hg]; exact Nat.ne_of_lt (blk_lt (g := gb102) (o := .cells #[.int .i64 0, .int .i64 0] 28 (0, 0)) (by (with_reducible repeat (first | refine blk_drewN ?_ _ | refine blk_drew ?_ | refine blk_alloc ?_ _)); exact BK102.out)) : gb102 ≠ gb109)); have n10_ := Aside0.mk ((by rw [hg]; exact Nat.ne_of_gt (blk_lt (g := gb102) (o := .cells #[.int .i64 0, .int .i64 0] 28 (0, 0)) (by (with_reducible repeat (first | refine blk_drewN ?_ _ | refine blk_drew ?_ | refine blk_alloc ?_ _)); exact BK102.out)) : gb109 ≠ gb102)); clear HO_36; clear BK101; clear BK102; clear HB; have HO_36 := n0_; have BK101 := n1_; have BK102 := n2_; have HB := n3_; have BK109 := n4_; have GW109 := n5_; have GE109 := n6_; have NB101_109 := n7_; have NB109_101 := n8_; have NB102_109 := n9_; have NB109_102 := n10_; clear n0_ n1_ n2_ n3_ n4_ n5_ n6_ n7_ n8_ n9_ n10_; clear hb hbox hg; have hnb32 := NB109_101.out; have hnc32 := NB101_109.out; have hnb33 := NB109_102.out; have hnc33 := NB102_109.out; have hcz34_0 : w31.cell? ⟨gb109, 0, none⟩ = some (.int .i64 0) := (blk_cell BK109.out 0).trans rfl; have hcz34_1 : w31.cell? ⟨gb109, 1, none⟩ = some (.int .i64 0) := (blk_cell BK109.out 1).trans rfl; have hfz34_0 := blk_frozen BK109.out 0; have hfz34_1 := blk_frozen BK109.out 1))
            go_roundg k2
            case measure => have := HK1.out; have := HK2.out; omega
            case rel => exact ⟨(wrap64 (x10_2 + (wrap64 (((rd_T36 t105 x38_2).f0) * (wrap64 (Int.tdiv x6_1 (wrap64 (((rd_T36 t105 x38_2).f1) * a1)))))))), (wrap64 (x11_2 + (wrap64 (Int.tdiv x6_1 (wrap64 (((rd_T36 t105 x38_2).f1) * a1)))))), (wrap64 (x38_2 + 1)), (by first | rfl | (simp; done) | (simp [*]; done)), (by first | rfl | (simp; done) | (simp [*]; done)), (by first | rfl | (simp; done) | (simp [*]; done)), H', ⟨by have := HK1.out; have := HK2.out; omega⟩, ⟨by (with_reducible repeat (first | apply Kd.R_alloc | apply Kd.R_drewN | apply Kd.R_drew)); exact Kd.R_mono (Kd.R_far (p := ⟨gb109, 1, none⟩) (Kd.R_far (p := ⟨gb109, 0, none⟩) (Kd.R_mono HO_36.out (fun k_ hk => (⟨hk, hk.2⟩ : _ ∧ k_ ≠ gb109))) (fun _ hk => hk.2) (.int .i64 ((rd_T36 t105 x38_2).f0))) (fun _ hk => hk.2) (.int .i64 ((rd_T36 t105 x38_2).f1))) (fun _ hk => trivial)⟩, ⟨by (with_reducible repeat (first | refine blk_drewN ?_ _ | refine blk_drew ?_ | refine blk_alloc ?_ _)); refine blk_far ?_ NB101_109.out _; (with_reducible repeat (first | refine blk_drewN ?_ _ | refine blk_drew ?_ | refine blk_alloc ?_ _)); refine blk_far ?_ NB101_109.out _; (with_reducible repeat (first | refine blk_drewN ?_ _ | refine blk_drew ?_ | refine blk_alloc ?_ _)); exact BK101.out⟩, ⟨by (with_reducible repeat (first | refine blk_drewN ?_ _ | refine blk_drew ?_ | refine blk_alloc ?_ _)); refine blk_far ?_ NB102_109.out _; (with_reducible repeat (first | refine blk_drewN ?_ _ | refine blk_drew ?_ | refine blk_alloc ?_ _)); refine blk_far ?_ NB102_109.out _; (with_reducible repeat (first | refine blk_drewN ?_ _ | refine blk_drew ?_ | refine blk_alloc ?_ _)); exact BK102.out⟩, ⟨by repeat (first | (with_reducible first | exact HB.out | apply below_alloc | apply pw_below_drewN | apply below_drew1 | refine below_set ?_ GE101.out | refine below_set ?_ GE102.out | refine below_set ?_ GE109.out) | exact HB.out)⟩⟩
         ·rw [if_neg c18] at H
          exact absurd H (by simp)
        ·rw [if_neg c17] at H
         exact absurd H (by simp)
       ·rw [if_neg c16] at H
        have c16b0 : decide (x38_2 < (t105.length : Int)) = false := decide_eq_false c16
        clear c16
        (first | rw [c16b0] | (simp only [i64_w, i32_w]; rw [c16b0]) | skip)
        have H' := Aside0.mk H
        clear H
        go_wp2
        go_meet
        case rel => exact ⟨_, (x10_2), (x11_2), (by first | rfl | (simp; done) | (simp [*]; done)), (by first | rfl | (simp; done) | (simp [*]; done)), H', ⟨by have := HK1.out; have := HK2.out; first | omega | exact Nat.le_refl _⟩, ⟨by (with_reducible repeat (first | refine blk_drewN ?_ _ | refine blk_drew ?_ | refine blk_alloc ?_ _)); exact BK101.out⟩, ⟨by (with_reducible repeat (first | refine blk_drewN ?_ _ | refine blk_drew ?_ | refine blk_alloc ?_ _)); exact BK102.out⟩, ⟨by repeat (first | (with_reducible first | exact HB.out | apply below_alloc | apply pw_below_drewN | apply below_drew1 | refine below_set ?_ GE101.out | refine below_set ?_ GE102.out) | exact HB.out)⟩⟩
    case rest =>
     clear HC13
     try clear c1
     try clear p1
     try clear q1
     try clear hx1
     try clear c2
     try clear p2
     try clear c3
     try clear c4
     try clear c5
     try clear c5b0
     try clear c6
     try clear c6b0
     try clear p6
     try clear c7
     try clear c7b0
     try clear c9
     try clear c10
     try clear p10
     try clear q10
     try clear hx10
     try clear c16
     try clear c16b0
     try clear c17
     try clear c17b0
     try clear c18
     try clear c18b0
     try clear c19
     try clear c19b0
     try clear c20
     try clear c20b0
     try clear c22
     try clear c23
     try clear c25
     try clear c25b0
     try clear c25b1
     try clear c27
     try clear c28
     try clear c30
     try clear c30b0
     try clear c30b1
     try clear c32
     try clear c33
     try clear hcz11_0
     try clear hcz11_1
     try clear hcz24_0
     try clear hcz24_1
     try clear hcz29_0
     try clear hcz29_1
     try clear hcz34_0
     try clear hcz34_1
     try clear hfz11_0
     try clear hfz11_1
     try clear hfz24_0
     try clear hfz24_1
     try clear hfz29_0
     try clear hfz29_1
     try clear hfz34_0
     try clear hfz34_1
     try clear hx103_0
     try clear hx103_1
     try clear hx108_0
     try clear hx108_1
     try clear p1
     try clear p10
     try clear p103
     try clear p108
     try clear p2
     try clear p6
     try clear q1
     try clear q10
     try clear q103
     try clear q108
     obtain ⟨kq, x10_12, x11_12, rfl, rfl, HA, HJ12, BK101, BK102, HB⟩ := hcut
     cases kq with
     | zero => exact absurd HA.out (by simp [jam_balance.j2])
     | succ kj12 =>
      have H := HA.out
      clear HA
      simp only [jam_balance.j2] at H
      have H' := Aside0.mk H
      clear H
      go_wp2
      go_loopg [15, 70] kj12 (fun kq v15 v70 w' => ∃ (x15_3 : List Int) (x70_3 : Int), v70 = .int .i64 x70_3 ∧ Aside0 (jam_balance.l2 kq a1 x6_1 x10_12 x11_12 x15_3 l0 (l0.length : Int) x70_3 = some (r1, r2, r3, r4)) ∧ Aside0 (kq ≤ kj12) ∧ Aside0 (Kd.R (Kd.int .i64) 3 w' w.heap.size (fun _ => True) v15 x15_3) ∧ Aside0 (w'.heap[gb101]? = some (.cells #[(.slice none 0 0), .int .i64 0] 26 (0, 0))) ∧ Aside0 (w'.heap[gb102]? = some (.cells #[.int .i64 0, .int .i64 0] 28 (0, 0))) ∧ Aside0 (Below w.heap.size w w'))
      case atStart => exact ⟨(([] : List Int)), (0), (by first | rfl | (simp; done) | (simp [*]; done)), H', ⟨Nat.le_refl _⟩, ⟨by first | exact Kd.R_nil _ _ _ _ _ | exact Kd.N_nil _ _ _ _ _ | exact Kd.V_nil _ _ _ _ _ | exact Kd.Q_nil _ _ _ _ _ | exact Kd.S_nil _ _ _ _ _⟩, ⟨by (with_reducible repeat (first | refine blk_drewN ?_ _ | refine blk_drew ?_ | refine blk_alloc ?_ _)); exact BK101.out⟩, ⟨by (with_reducible repeat (first | refine blk_drewN ?_ _ | refine blk_drew ?_ | refine blk_alloc ?_ _)); exact BK102.out⟩, ⟨by repeat (first | (with_reducible first | exact HB.out | apply below_alloc | apply pw_below_drewN | apply below_drew1 | refine below_set ?_ GE101.out | refine below_set ?_ GE102.out) | exact HB.out)⟩⟩
      case round =>
       clear H'
       try clear c1
       try clear p1
       try clear q1
       try clear hx1
       try clear c2
       try clear p2
       try clear c3
       try clear c4
       try clear c5
       try clear c5b0
       try clear c6
       try clear c6b0
       try clear p6
       try clear c7
       try clear c7b0
       try clear c9
       try clear c10
       try clear p10
       try clear q10
       try clear hx10
       try clear c16
       try clear c16b0
       try clear c17
       try clear c17b0
       try clear c18
       try clear c18b0
       try clear c19
       try clear c19b0
       try clear c20
       try clear c20b0
       try clear c22
       try clear c23
       try clear c25
       try clear c25b0
       try clear c25b1
       try clear c27
       try clear c28
       try clear c30
       try clear c30b0
       try clear c30b1
       try clear c32
       try clear c33
       try clear hcz11_0
       try clear hcz11_1
       try clear hcz24_0
       try clear hcz24_1
       try clear hcz29_0
       try clear hcz29_1
       try clear hcz34_0
       try clear hcz34_1
       try clear hfz11_0
       try clear hfz11_1
       try clear hfz24_0
       try clear hfz24_1
       try clear hfz29_0
       try clear hfz29_1
       try clear hfz34_0
       try clear hfz34_1
       try clear hx103_0
       try clear hx103_1
       try clear hx108_0
       try clear hx108_1
       try clear p1
       try clear p10
       try clear p103
       try clear p108
       try clear p2
       try clear p6
       try clear q1
       try clear q10
       try clear q103
       try clear q108
       obtain ⟨x15_3, x70_3, rfl, HA, HK3, HO_15, BK101, BK102, HB⟩ := hrel
       cases gk with
       | zero => exact absurd HA.out (by simp [jam_balance.l2])
       | succ k3 =>
        have H := HA.out
        clear HA
        simp only [jam_balance.l2] at H
        by_cases c35 : x70_3 < (l0.length : Int)
        ·rw [if_pos c35] at H
         have c35b0 : decide (x70_3 < (l0.length : Int)) = true := decide_eq_true c35
         clear c35
         by_cases c36 : 0 ≤ x70_3
         ·rw [if_pos c36] at H
          have c36b0 : decide (0 ≤ x70_3) = true := decide_eq_true c36
          clear c36
          by_cases c37 : x70_3 < (l0.length : Int)
          ·rw [if_pos c37] at H
           have c37b0 : decide (x70_3 < (l0.length : Int)) = true := decide_eq_true c37
           clear c37
           obtain ⟨ji38, hji38⟩ : ∃ j_ : Int, (mx 0 (wrap64 (x10_12 - (wrap64 (((rd_T36 l0 x70_3).f0) * x11_12))))) = j_ := ⟨_, rfl⟩
           replace H : (if (wrap64 (((rd_T36 l0 x70_3).f1) * a1)) = 0 then (none) else (if x15_3.length < 17592186044416 then (jam_balance.l2 k3 a1 x6_1 x10_12 x11_12 (x15_3 ++ [wrap64 ((ji38) * (wrap64 (Int.tdiv x6_1 (wrap64 (((rd_T36 l0 x70_3).f1) * a1)))))]) l0 (l0.length : Int) (wrap64 (x70_3 + 1))) else (none))) = some (r1, r2, r3, r4) := by first | (rw [hji38] at H; exact H) | (simp only [hji38] at H ⊢; exact H)
           have hji38_ : (if 0 < (wrap64 (x10_12 - (wrap64 (((rd_T36 l0 x70_3).f0) * x11_12)))) then (wrap64 (x10_12 - (wrap64 (((rd_T36 l0 x70_3).f0) * x11_12)))) else 0) = ji38 := hji38
           by_cases c39 : (wrap64 (((rd_T36 l0 x70_3).f1) * a1)) = 0
           ·rw [if_pos c39] at H
            exact absurd H (by simp)
           ·rw [if_neg c39] at H
            have c39b0 : ((wrap64 (((rd_T36 l0 x70_3).f1) * a1)) == 0) = false := beq_eq_false_iff_ne.mpr c39
            have c39b1 : ((wrap64 (((rd_T36 l0 x70_3).f1) * a1)) != 0) = true := bne_iff_ne.mpr c39
            by_cases c40 : x15_3.length < 17592186044416
            ·rw [if_pos c40] at H
             have LMc40 := Aside0.mk c40
             clear c40
             obtain ⟨y112, hy112⟩ : ∃ y_ : List Int, y_ = (x15_3 ++ [wrap64 ((ji38) * (wrap64 (Int.tdiv x6_1 (wrap64 (((rd_T36 l0 x70_3).f1) * a1)))))]) := ⟨_, rfl⟩
             replace H : (jam_balance.l2 k3 a1 x6_1 x10_12 x11_12 y112 l0 (l0.length : Int) (wrap64 (x70_3 + 1))) = some (r1, r2, r3, r4) := by first | (rw [hy112]; with_reducible exact H) | (have H2_ := (Option.bind_some _ _).symm.trans H; rw [hy112]; with_reducible exact H2_) | (have H2_ := (Option.bind_some _ _).symm.trans H; with_reducible exact H2_) | with_reducible exact H | (rw [hy112]; exact H) | exact H
             have Ny112 := Aside0.mk hy112
             clear hy112
             have H' := Aside0.mk H
             clear H
             have p110 : 0 ≤ (x70_3 : Int) := of_decide_eq_true (by first | (with_reducible assumption) | assumption)
             have q110 : x70_3 < (l0.length : Int) := of_decide_eq_true (by first | (with_reducible assumption) | assumption)
             obtain ⟨ad110, e110, hx110_0, hx110_1⟩ := at_T36 HR0.out x70_3 p110 q110
             cases e110
             replace hx110_0 := (HB.out.cell (World.block_lt_of_cell? w _ hx110_0)).trans hx110_0
             replace hx110_1 := (HB.out.cell (World.block_lt_of_cell? w _ hx110_1)).trans hx110_1
             replace p110 := eq_true p110
             replace q110 := eq_true q110
             try go_wp2_with (first | ((with_reducible refine gate_dst (N := 17) rfl ?_); refine box_event ?hg (N := 17) ?hd (cs := #[.int .i64 0, .int .i64 0]) (t := 36) ?hr ?_; (case hd => rfl); (case hg => rfl); (case hr => first | (go_simp; done) | (go_simp; rfl)); intro gb111 hg w41 hbox hb; have n0_ := Aside0.mk (Kd.R_below (by (with_reducible repeat (first | apply Kd.R_alloc | apply Kd.R_drewN | apply Kd.R_drew)); exact HO_15.out) hb); have n1_ := Aside0.mk (blk_below (g := gb101) (o := .cells #[.slice none 0 0, .int .i64 0] 26 (0, 0)) (by (with_reducible repeat (first | refine blk_drewN ?_ _ | refine blk_drew ?_ | refine blk_alloc ?_ _)); exact BK101.out) hb); have n2_ := Aside0.mk (blk_below (g := gb102) (o := .cells #[.int .i64 0, .int .i64 0] 28 (0, 0)) (by (with_reducible repeat (first | refine blk_drewN ?_ _ | refine blk_drew ?_ | refine blk_alloc ?_ _)); exact BK102.out) hb); have n3_ := Aside0.mk (below_step (by repeat (first | (with_reducible first | exact HB.out | apply below_alloc | apply pw_below_drewN | apply below_drew1 | refine below_set ?_ GE101.out | refine below_set ?_ GE102.out) | exact HB.out)) hb); have n4_ := Aside0.mk (hbox); have n5_ := Aside0.mk ((by rw [hg]; exact (below_size (by repeat (first | (with_reducible first | exact HB.out | apply below_alloc | apply pw_below_drewN | apply below_drew1 | refine below_set ?_ GE101.out | refine below_set ?_ GE102.out) | exact HB.out))) : w.heap.size ≤ gb111)); have n6_ := Aside0.mk ((by rw [hg]; exact (below_size (by repeat (first | (with_reducible first | exact HB.out | apply below_alloc | apply pw_below_drewN | apply below_drew1 | refine below_set ?_ GE101.out | refine below_set ?_ GE102.out) | exact HB.out))) : w.heap.size ≤ gb111)); have n7_ := Aside0.mk ((by rw [hg]; exact Nat.ne_of_lt (blk_lt (g := gb101) (o := .cells #[.slice none 0 0, .int .i64 0] 26 (0, 0)) (by (with_reducible repeat (first | refine blk_drewN ?_ _ | refine blk_drew ?_ | refine blk_alloc ?_ _)); exact BK101.out)) : gb101 ≠ gb111)); have n8_ := Aside0.mk ((by rw [hg]; exact Nat.ne_of_gt (blk_lt (g := gb101) (o := .cells #[.slice none 0 0, .int .i64 0] 26 (0, 0)) (by (with_reducible repeat (first | refine blk_drewN ?_ _ | refine blk_drew ?_ | refine blk_alloc ?_ _)); exact BK101.out)) : gb111 ≠ gb101)); have n9_ := Aside0.mk ((by rw [hg]; exact Nat.ne_of_lt (blk_lt (g := gb102) (o := .cells #[.int .i64 0, .int .i64 0] 28 (0, 0)) (by (with_reducible repeat (first | refine blk_drewN ?_ _ | refine blk_drew ?_ | refine blk_alloc ?_ _)); exact BK102.out)) : gb102 ≠ gb111)); have n10_ := Aside0.mk ((by rw [hg]; exact Nat.ne_of_gt (blk_lt (g := gb102) (o := .cells #[.int .i64 0, .int .i64 0] 28 (0, 0)) (by (with_reducible repeat (first | refine blk_drewN ?_ _ | refine blk_drew ?_ | refine blk_alloc ?_ _)); exact BK102.out)) : gb111 ≠ gb102)); clear HO_15; clear BK101; clear BK102; clear HB; have HO_15 := n0_; have BK101 := n1_; have BK102 := n2_; have HB := n3_; have BK111 := n4_; have GW111 := n5_; have GE111 := n6_; have NB101_111 := n7_; have NB111_101 := n8_; have NB102_111 := n9_; have NB111_102 := n10_; clear n0_ n1_ n2_ n3_ n4_ n5_ n6_ n7_ n8_ n9_ n10_; clear hb hbox hg; have hnb42 := NB111_101.out; have hnc42 := NB101_111.out; have hnb43 := NB111_102.out; have hnc43 := NB102_111.out; have hcz44_0 : w41.cell? ⟨gb111, 0, none⟩ = some (.int .i64 0) := (blk_cell BK111.out 0).trans rfl; have hcz44_1 : w41.cell? ⟨gb111, 1, none⟩ = some (.int .i64 0) := (blk_cell BK111.out 1).trans rfl; have hfz44_0 := blk_frozen BK111.out 0; have hfz44_1 := blk_frozen BK111.out 1))
             have n0_ : Aside0 (Kd.R (Kd.int .i64) 3 ((w41.setCell ⟨gb111, 0, none⟩ (.int .i64 ((rd_T36 l0 x70_3).f0))).setCell ⟨gb111, 1, none⟩ (.int .i64 ((rd_T36 l0 x70_3).f1))) w.heap.size (fun _ => True) u15 x15_3) := ⟨by (with_reducible repeat (first | apply Kd.R_alloc | apply Kd.R_drewN | apply Kd.R_drew)); exact Kd.R_mono (Kd.R_far (p := ⟨gb111, 1, none⟩) (Kd.R_far (p := ⟨gb111, 0, none⟩) (Kd.R_types HO_15.out BK111.out (by decide)) (fun _ hk => hk.2) (.int .i64 ((rd_T36 l0 x70_3).f0))) (fun _ hk => hk.2) (.int .i64 ((rd_T36 l0 x70_3).f1))) (fun _ hk => trivial)⟩
             have n1_ : Aside0 (((w41.setCell ⟨gb111, 0, none⟩ (.int .i64 ((rd_T36 l0 x70_3).f0))).setCell ⟨gb111, 1, none⟩ (.int .i64 ((rd_T36 l0 x70_3).f1))).heap[gb101]? = some (.cells #[.slice none 0 0, .int .i64 0] 26 (0, 0))) := ⟨by (with_reducible repeat (first | refine blk_drewN ?_ _ | refine blk_drew ?_ | refine blk_alloc ?_ _)); refine blk_far ?_ NB101_111.out _; (with_reducible repeat (first | refine blk_drewN ?_ _ | refine blk_drew ?_ | refine blk_alloc ?_ _)); refine blk_far ?_ NB101_111.out _; (with_reducible repeat (first | refine blk_drewN ?_ _ | refine blk_drew ?_ | refine blk_alloc ?_ _)); exact BK101.out⟩
             have n2_ : Aside0 (((w41.setCell ⟨gb111, 0, none⟩ (.int .i64 ((rd_T36 l0 x70_3).f0))).setCell ⟨gb111, 1, none⟩ (.int .i64 ((rd_T36 l0 x70_3).f1))).heap[gb102]? = some (.cells #[.int .i64 0, .int .i64 0] 28 (0, 0))) := ⟨by (with_reducible repeat (first | refine blk_drewN ?_ _ | refine blk_drew ?_ | refine blk_alloc ?_ _)); refine blk_far ?_ NB102_111.out _; (with_reducible repeat (first | refine blk_drewN ?_ _ | refine blk_drew ?_ | refine blk_alloc ?_ _)); refine blk_far ?_ NB102_111.out _; (with_reducible repeat (first | refine blk_drewN ?_ _ | refine blk_drew ?_ | refine blk_alloc ?_ _)); exact BK102.out⟩
             have n3_ : Aside0 (((w41.setCell ⟨gb111, 0, none⟩ (.int .i64 ((rd_T36 l0 x70_3).f0))).setCell ⟨gb111, 1, none⟩ (.int .i64 ((rd_T36 l0 x70_3).f1))).heap[gb111]? = some (.cells #[.int .i64 ((rd_T36 l0 x70_3).f0), .int .i64 ((rd_T36 l0 x70_3).f1)] 36 (0, 0))) := ⟨by (with_reducible repeat (first | refine blk_drewN ?_ _ | refine blk_drew ?_ | refine blk_alloc ?_ _)); refine blk_put (cs := #[.int .i64 ((rd_T36 l0 x70_3).f0), .int .i64 0]) ?_ 1 _ rfl; (with_reducible repeat (first | refine blk_drewN ?_ _ | refine blk_drew ?_ | refine blk_alloc ?_ _)); refine blk_put (cs := #[.int .i64 0, .int .i64 0]) ?_ 0 _ rfl; (with_reducible repeat (first | refine blk_drewN ?_ _ | refine blk_drew ?_ | refine blk_alloc ?_ _)); exact BK111.out⟩
             have n4_ : Aside0 (Below w.heap.size w ((w41.setCell ⟨gb111, 0, none⟩ (.int .i64 ((rd_T36 l0 x70_3).f0))).setCell ⟨gb111, 1, none⟩ (.int .i64 ((rd_T36 l0 x70_3).f1)))) := ⟨by repeat (first | (with_reducible first | exact HB.out | apply below_alloc | apply pw_below_drewN | apply below_drew1 | refine below_set ?_ GE101.out | refine below_set ?_ GE102.out | refine below_set ?_ GE111.out) | exact HB.out)⟩
             (try clear HO_15)
             (try clear BK101)
             (try clear BK102)
             (try clear BK111)
             (try clear HB)
             generalize ((w41.setCell ⟨gb111, 0, none⟩ (.int .i64 ((rd_T36 l0 x70_3).f0))).setCell ⟨gb111, 1, none⟩ (.int .i64 ((rd_T36 l0 x70_3).f1))) = w45 at n0_ n1_ n2_ n3_ n4_ ⊢
             have HO_15 := n0_
             have BK101 := n1_
             have BK102 := n2_
             have BK111 := n3_
             have HB := n4_
             clear n0_ n1_ n2_ n3_ n4_
             have n0_ := Aside0.mk (Kd.R_drew HO_15.out)
             have n1_ := Aside0.mk (blk_drew BK101.out)
             have n2_ := Aside0.mk (blk_drew BK102.out)
             have n3_ := Aside0.mk (blk_drew BK111.out)
             have n4_ := Aside0.mk (below_drew1 HB.out)
             clear HO_15
             clear BK101
             clear BK102
             clear BK111
             clear HB
             have HO_15 := n0_
             have BK101 := n1_
             have BK102 := n2_
             have BK111 := n3_
             have HB := n4_
             clear n0_ n1_ n2_ n3_ n4_
             refine start_ (n := 18) (S := fun w' => w'.cell? ⟨gb111, 0, none⟩ = some (.int .i64 ((rd_T36 l0 x70_3).f0)) ∧ w'.cell? ⟨gb111, 1, none⟩ = some (.int .i64 ((rd_T36 l0 x70_3).f1))) (ds := []) #[false, false, false, false, false, false, false, false, false, false, false, false, false, false, false, false, false, false] (by kernel_rfl) rfl rfl ⟨(blk_cell BK111.out 0).trans rfl, (blk_cell BK111.out 1).trans rfl⟩ (fun hHeld => ?_); refine with_tabW jam_balance.tab22 jam_balance.bits22 (fun HT_ HW_ => ?_)
             generalize w45.drew = w46 at HO_15 BK101 BK102 BK111 HB hHeld ⊢
             refine pure_ (i := 0) (N := some 74) (v := ?_) (a' := ?_) #[true, false, false, false, false, false, false, false, false, false, false, false, false, false, false, false, false, false] rfl rfl (any_of HT_.out (by kernel_rfl)) (fun _ _ _ h => h) (Or.inl ⟨by rfl, ?_⟩) ?_ ?_
             rotate_left
             ·intro w'
              go_simp
              with_reducible rfl
             rotate_left
             ·simp only [Act.put, List.setIfInBounds_toArray, List.set_cons_zero, List.set_cons_succ, i64_w, i32_w]
              rfl
             refine pure_ (i := 1) (N := some 75) (v := ?_) (a' := ?_) #[true, true, false, false, false, false, false, false, false, false, false, false, false, false, false, false, false, false] rfl rfl (any_of HT_.out (by kernel_rfl)) (fun _ _ _ h => h) (Or.inl ⟨by rfl, ?_⟩) ?_ ?_
             rotate_left
             ·intro w'
              go_simp
              with_reducible rfl
             rotate_left
             ·simp only [Act.put, List.setIfInBounds_toArray, List.set_cons_zero, List.set_cons_succ, i64_w, i32_w]
              rfl
             refine pure_ (i := 2) (N := some 76) (v := ?_) (a' := ?_) #[true, true, true, false, false, false, false, false, false, false, false, false, false, false, false, false, false, false] rfl rfl (any_of HT_.out (by kernel_rfl)) (fun _ _ _ h => h) (Or.inl ⟨by rfl, ?_⟩) ?_ ?_
             rotate_left
             ·intro w'
              go_simp
              with_reducible rfl
             rotate_left
             ·simp only [Act.put, List.setIfInBounds_toArray, List.set_cons_zero, List.set_cons_succ, i64_w, i32_w]
              rfl
             refine pure_ (i := 4) (N := some 78) (v := ?_) (a' := ?_) #[true, true, true, false, true, false, false, false, false, false, false, false, false, false, false, false, false, false] rfl rfl (any_of HT_.out (by kernel_rfl)) (fun _ _ _ h => h) (Or.inl ⟨by rfl, ?_⟩) ?_ ?_
             rotate_left
             ·intro w'
              go_simp
              with_reducible rfl
             rotate_left
             ·simp only [Act.put, List.setIfInBounds_toArray, List.set_cons_zero, List.set_cons_succ, i64_w, i32_w]
              rfl
             refine pure_ (i := 8) (N := some 82) (v := ?_) (a' := ?_) #[true, true, true, false, true, false, false, false, true, false, false, false, false, false, false, false, false, false] rfl rfl (any_of HT_.out (by kernel_rfl)) (fun _ _ _ h => h) (Or.inl ⟨by rfl, ?_⟩) ?_ ?_
             rotate_left
             ·intro w'
              go_simp
              with_reducible rfl
             rotate_left
             ·simp only [Act.put, List.setIfInBounds_toArray, List.set_cons_zero, List.set_cons_succ, i64_w, i32_w]
              rfl
             refine pure_ (i := 9) (N := some 83) (v := ?_) (a' := ?_) #[true, true, true, false, true, false, false, false, true, true, false, false, false, false, false, false, false, false] rfl rfl (any_of HT_.out (by kernel_rfl)) (fun _ _ _ h => h) (Or.inl ⟨by rfl, ?_⟩) ?_ ?_
             rotate_left
             ·intro w'
              go_simp
              with_reducible rfl
             rotate_left
             ·simp only [Act.put, List.setIfInBounds_toArray, List.set_cons_zero, List.set_cons_succ, i64_w, i32_w]
              rfl
             refine pure_ (i := 11) (N := some 85) (v := ?_) (a' := ?_) #[true, true, true, false, true, false, false, false, true, true, false, true, false, false, false, false, false, false] rfl rfl (any_of HT_.out (by kernel_rfl)) (fun _ _ _ h => h) (Or.inl ⟨by rfl, ?_⟩) ?_ ?_
             rotate_left
             ·intro w'
              go_simp
              with_reducible rfl
             rotate_left
             ·simp only [Act.put, List.setIfInBounds_toArray, List.set_cons_zero, List.set_cons_succ, i64_w, i32_w]
              rfl
             refine take_ (i := 3) (N := some 77) (v := ?_) (a' := ?_) #[true, true, true, true, true, false, false, false, true, true, false, true, false, false, false, false, false, false] rfl rfl (take_ofW HT_.out HW_.out (by kernel_rfl)) (fun _ _ _ h => h) (Or.inl ⟨by rfl, ?_⟩) hHeld ?_ ?_
             rotate_left
             ·rintro w' ⟨s0, s1⟩
              go_simp
              with_reducible rfl
             rotate_left
             ·simp only [Act.put, List.setIfInBounds_toArray, List.set_cons_zero, List.set_cons_succ, i64_w, i32_w]
              rfl
             refine pure_ (i := 5) (N := some 79) (v := ?_) (a' := ?_) #[true, true, true, true, true, true, false, false, true, true, false, true, false, false, false, false, false, false] rfl rfl (any_of HT_.out (by kernel_rfl)) (fun _ _ _ h => h) (Or.inl ⟨by rfl, ?_⟩) ?_ ?_
             rotate_left
             ·intro w'
              go_simp
              with_reducible rfl
             rotate_left
             ·simp only [Act.put, List.setIfInBounds_toArray, List.set_cons_zero, List.set_cons_succ, i64_w, i32_w]
              rfl
             refine pure_ (i := 6) (N := some 80) (v := ?_) (a' := ?_) #[true, true, true, true, true, true, true, false, true, true, false, true, false, false, false, false, false, false] rfl rfl (any_of HT_.out (by kernel_rfl)) (fun _ _ _ h => h) (Or.inl ⟨by rfl, ?_⟩) ?_ ?_
             rotate_left
             ·intro w'
              go_simp
              with_reducible rfl
             rotate_left
             ·simp only [Act.put, List.setIfInBounds_toArray, List.set_cons_zero, List.set_cons_succ, i64_w, i32_w]
              rfl
             refine pure_ (i := 7) (N := some 81) (v := ?_) (a' := ?_) #[true, true, true, true, true, true, true, true, true, true, false, true, false, false, false, false, false, false] rfl rfl (any_of HT_.out (by kernel_rfl)) (fun _ _ _ h => h) (Or.inl ⟨by rfl, ?_⟩) ?_ ?_
             rotate_left
             ·intro w'
              go_simp
              with_reducible rfl
             rotate_left
             ·simp only [Act.put, List.setIfInBounds_toArray, List.set_cons_zero, List.set_cons_succ, i64_w, i32_w]
              rfl
             refine take_ (i := 10) (N := some 84) (v := ?_) (a' := ?_) #[true, true, true, true, true, true, true, true, true, true, true, true, false, false, false, false, false, false] rfl rfl (take_ofW HT_.out HW_.out (by kernel_rfl)) (fun _ _ _ h => h) (Or.inl ⟨by rfl, ?_⟩) hHeld ?_ ?_
             rotate_left
             ·rintro w' ⟨s0, s1⟩
              go_simp
              with_reducible rfl
             rotate_left
             ·simp only [Act.put, List.setIfInBounds_toArray, List.set_cons_zero, List.set_cons_succ, i64_w, i32_w]
              rfl
             refine pure_ (i := 12) (N := some 86) (v := ?_) (a' := ?_) #[true, true, true, true, true, true, true, true, true, true, true, true, true, false, false, false, false, false] rfl rfl (any_of HT_.out (by kernel_rfl)) (fun _ _ _ h => h) (Or.inl ⟨by rfl, ?_⟩) ?_ ?_
             rotate_left
             ·intro w'
              go_simp
              with_reducible rfl
             rotate_left
             ·simp only [Act.put, List.setIfInBounds_toArray, List.set_cons_zero, List.set_cons_succ, i64_w, i32_w]
              rfl
             refine pure_ (i := 13) (N := some 87) (v := ?_) (a' := ?_) #[true, true, true, true, true, true, true, true, true, true, true, true, true, true, false, false, false, false] rfl rfl (any_of HT_.out (by kernel_rfl)) (fun _ _ _ h => h) (Or.inl ⟨by rfl, ?_⟩) ?_ ?_
             rotate_left
             ·intro w'
              go_simp
              with_reducible rfl
             rotate_left
             ·simp only [Act.put, List.setIfInBounds_toArray, List.set_cons_zero, List.set_cons_succ, i64_w, i32_w]
              rfl
             refine pure_ (i := 14) (N := some 88) (v := ?_) (a' := ?_) #[true, true, true, true, true, true, true, true, true, true, true, true, true, true, true, false, false, false] rfl rfl (any_of HT_.out (by kernel_rfl)) (fun _ _ _ h => h) (Or.inl ⟨by rfl, ?_⟩) ?_ ?_
             rotate_left
             ·intro w'
              go_simp
              with_reducible rfl
             rotate_left
             ·simp only [Act.put, List.setIfInBounds_toArray, List.set_cons_zero, List.set_cons_succ, i64_w, i32_w]
              rfl
             refine one_ (i := 15) (N := some 89) #[true, true, true, true, true, true, true, true, true, true, true, true, true, true, true, true, false, false] rfl rfl (one_of HT_.out (by kernel_rfl)) (by decide) (fun K hK => ?_)
             refine value_ (w1 := ?_) (v := ?_) (by rfl) rfl ?_ ?_
             rotate_left 2
             ·go_simp
              constructor
              ·rfl
              ·rfl
             refine hK.out _ _ ⟨(blk_cell (blk_alloc BK111.out _) 0).trans rfl, (blk_cell (blk_alloc BK111.out _) 1).trans rfl⟩ (fun hHeld => ?_)
             clear hK K
             refine norm_ (a' := ?_) ?_ ?_
             rotate_left
             ·show Act.put _ (some 89) _ = _
              simp only [Act.put, List.setIfInBounds_toArray, List.set_cons_zero, List.set_cons_succ, i64_w, i32_w]
              rfl
             refine one_ (i := 16) (N := some 90) #[true, true, true, true, true, true, true, true, true, true, true, true, true, true, true, true, true, false] rfl rfl (one_of HT_.out (by kernel_rfl)) (by decide) (fun K hK => ?_)
             refine Kd.R_append_step (Kd.int .i64) (w0 := w) w.heap.size (by rfl) (.tmp 74) (.tmp 89) 24 3 (.int .i64 0) 8 rfl Try.underlying24 info3 rfl (by decide) (by omega) u15 x15_3 (wrap64 ((ji38) * (wrap64 (Int.tdiv x6_1 (wrap64 (((rd_T36 l0 x70_3).f1) * a1)))))) [.int .i64 (wrap64 ((ji38) * (wrap64 (Int.tdiv x6_1 (wrap64 (((rd_T36 l0 x70_3).f1) * a1))))))] (fun _ => True) (fun _ => False) rfl rfl ?aP (fun _ hk => hk.elim) ?aF ?aO ?aB ?aS ?aL ?_
             (case aP => exact rfl)
             (case aB => exact (by repeat (first | (with_reducible first | exact HB.out | apply below_alloc | apply pw_below_drewN | apply below_drew1 | refine below_set ?_ GE101.out | refine below_set ?_ GE102.out | refine below_set ?_ GE111.out) | exact HB.out)))
             (case aF => exact (fun _ _ => trivial))
             (case aO => exact (by (with_reducible repeat (first | apply Kd.R_alloc | apply Kd.R_drewN | apply Kd.R_drew)); exact HO_15.out))
             (case aS => exact (below_size (by repeat (first | (with_reducible first | exact HB.out | apply below_alloc | apply pw_below_drewN | apply below_drew1 | refine below_set ?_ GE101.out | refine below_set ?_ GE102.out | refine below_set ?_ GE111.out) | exact HB.out))))
             (case aL => have := LMc40.out; omega)
             intro v113 w47 ho hb hg hat
             rw [← Ny112.out] at ho
             have n0_ := Aside0.mk (blk_grown (g := gb101) (o := .cells #[.slice none 0 0, .int .i64 0] 26 (0, 0)) (by (with_reducible repeat (first | refine blk_drewN ?_ _ | refine blk_drew ?_ | refine blk_alloc ?_ _)); exact BK101.out) hg (Kd.R_ne HO_15.out BK101.out (by decide)))
             have n1_ := Aside0.mk (blk_grown (g := gb102) (o := .cells #[.int .i64 0, .int .i64 0] 28 (0, 0)) (by (with_reducible repeat (first | refine blk_drewN ?_ _ | refine blk_drew ?_ | refine blk_alloc ?_ _)); exact BK102.out) hg (Kd.R_ne HO_15.out BK102.out (by decide)))
             have n2_ := Aside0.mk (blk_grown (g := gb111) (o := .cells #[.int .i64 ((rd_T36 l0 x70_3).f0), .int .i64 ((rd_T36 l0 x70_3).f1)] 36 (0, 0)) (by (with_reducible repeat (first | refine blk_drewN ?_ _ | refine blk_drew ?_ | refine blk_alloc ?_ _)); exact BK111.out) hg (Kd.R_ne HO_15.out BK111.out (by decide)))
             have n3_ := Aside0.mk (hb)
             have n4_ := Aside0.mk (ho)
             clear BK101
             clear BK102
             clear BK111
             clear HB
             clear HO_15
             have BK101 := n0_
             have BK102 := n1_
             have BK111 := n2_
             have HB := n3_
             have HO114 := n4_
             clear n0_ n1_ n2_ n3_ n4_
             clear ho hb hg hat
             refine hK.out _ _ ⟨(blk_cell BK111.out 0).trans rfl, (blk_cell BK111.out 1).trans rfl⟩ (fun hHeld => ?_)
             clear hK K
             refine norm_ (a' := ?_) ?_ ?_
             rotate_left
             ·show Act.put _ (some 90) _ = _
              simp only [Act.put, List.setIfInBounds_toArray, List.set_cons_zero, List.set_cons_succ, i64_w, i32_w]
              rfl
             refine pure_ (i := 17) (N := some 15) (v := ?_) (a' := ?_) #[true, true, true, true, true, true, true, true, true, true, true, true, true, true, true, true, true, true] rfl rfl (any_of HT_.out (by kernel_rfl)) (fun _ _ _ h => h) (Or.inl ⟨by rfl, ?_⟩) ?_ ?_
             rotate_left
             ·intro w'
              go_simp
              with_reducible rfl
             rotate_left
             ·simp only [Act.put, List.setIfInBounds_toArray, List.set_cons_zero, List.set_cons_succ, i64_w, i32_w]
              rfl
             refine done_ (done_of HT_.out (by kernel_rfl)) ?_
             try go_wp2
             go_roundg k3
             case measure => have := HK1.out; have := HJ12.out; have := HK3.out; omega
             case rel => exact ⟨(y112), (wrap64 (x70_3 + 1)), (by first | rfl | (simp; done) | (simp [*]; done)), H', ⟨by have := HK1.out; have := HJ12.out; have := HK3.out; omega⟩, ⟨by (with_reducible repeat (first | apply Kd.R_alloc | apply Kd.R_drewN | apply Kd.R_drew)); exact HO114.out⟩, ⟨by (with_reducible repeat (first | refine blk_drewN ?_ _ | refine blk_drew ?_ | refine blk_alloc ?_ _)); exact BK101.out⟩, ⟨by (with_reducible repeat (first | refine blk_drewN ?_ _ | refine blk_drew ?_ | refine blk_alloc ?_ _)); exact BK102.out⟩, ⟨by repeat (first | (with_reducible first | exact HB.out | apply below_alloc | apply pw_below_drewN | apply below_drew1 | refine below_set ?_ GE101.out | refine below_set ?_ GE102.out | refine below_set ?_ GE111.out) | exact HB.out)⟩⟩
            ·rw [if_neg c40] at H
             exact absurd H (by simp)
          ·rw [if_neg c37] at H
           exact absurd H (by simp)
         ·rw [if_neg c36] at H
          exact absurd H (by simp)
        ·rw [if_neg c35] at H
         have c35b0 : decide (x70_3 < (l0.length : Int)) = false := decide_eq_false c35
         clear c35
         replace H := Option.bind_eq_some_iff.mp H
         obtain ⟨⟨t115, t118⟩, A480, H⟩ := H
         replace H : ((ratio_Of.f k3 x10_12 x11_12).bind fun bt119 => (some (t115, t118, bt119.1, bt119.2))) = some (r1, r2, r3, r4) := H
         have A48 := Aside0.mk A480
         clear A480
         replace H := Option.bind_eq_some_iff.mp H
         obtain ⟨⟨t119, t120⟩, A490, H⟩ := H
         replace H : (some (t115, t118, t119, t120)) = some (r1, r2, r3, r4) := H
         have A49 := Aside0.mk A490
         clear A490
         simp only [Option.some.injEq, Prod.mk.injEq] at H
         obtain ⟨rfl, rfl, rfl, rfl⟩ := H
         obtain ⟨Ao50, co50, eo50⟩ := Kd.R_slice HO_15.out
         subst eo50
         go_wp2_with (first | ((with_reducible refine gate_callee (f := 80) rfl ?_); refine goesL_ (some 96) rfl rfl Try.func80 (by kernel_rfl) rfl #[.slice Ao50 x15_3.length co50, .int .i64 (wrap64 (x11_12 * x6_1))] rfl (by (try simp only [List.map_toArray, List.map_cons, List.map_nil]); first | done | rfl | (simp only [List.length_drop, List.length_take]; rfl)) ?_; (with_reducible refine (ratio_Parts.calls k3 _ _ x15_3 (wrap64 (x11_12 * x6_1)) t115 t118 _ ?side1 ?side2 A48.out).mono ?_); (case side1 => repeat (first | exact (Kd.R_reads' HO_15.out).2.2 | (with_reducible refine Kd.C_alloc ?_ _) | (with_reducible refine Kd.C_drewN ?_ _) | (with_reducible refine Kd.C_drew ?_))); (case side2 => exact (Kd.R_reads' HO_15.out).2.1); rintro e w51 ⟨v116, rfl, ho0, hb⟩; refine ⟨_, rfl, ?_⟩; have n0_ := Aside0.mk (Kd.R_elder' (by (with_reducible repeat (first | apply Kd.R_alloc | apply Kd.R_drewN | apply Kd.R_drew)); exact HO_15.out) (Kd.R_base ho0) hb); have n1_ := Aside0.mk (Kd.R_lower (Kd.R_new' ho0 (Kd.R_lt (by (with_reducible repeat (first | apply Kd.R_alloc | apply Kd.R_drewN | apply Kd.R_drew)); exact HO_15.out))) (below_size (by repeat (first | (with_reducible first | exact HB.out | apply below_alloc | apply pw_below_drewN | apply below_drew1 | refine below_set ?_ GE101.out | refine below_set ?_ GE102.out) | exact HB.out)))); have n2_ := Aside0.mk (blk_below (g := gb101) (o := .cells #[.slice none 0 0, .int .i64 0] 26 (0, 0)) (by (with_reducible repeat (first | refine blk_drewN ?_ _ | refine blk_drew ?_ | refine blk_alloc ?_ _)); exact BK101.out) hb); have n3_ := Aside0.mk (blk_below (g := gb102) (o := .cells #[.int .i64 0, .int .i64 0] 28 (0, 0)) (by (with_reducible repeat (first | refine blk_drewN ?_ _ | refine blk_drew ?_ | refine blk_alloc ?_ _)); exact BK102.out) hb); have n4_ := Aside0.mk (below_step (by repeat (first | (with_reducible first | exact HB.out | apply below_alloc | apply pw_below_drewN | apply below_drew1 | refine below_set ?_ GE101.out | refine below_set ?_ GE102.out) | exact HB.out)) hb); clear HO_15; clear BK101; clear BK102; clear HB; have HO_15 := n0_; have HO117 := n1_; have BK101 := n2_; have BK102 := n3_; have HB := n4_; clear n0_ n1_ n2_ n3_ n4_; (try clear hb); (try clear hb2); (try clear hk); (try clear hi); (try clear ho0)) | ((with_reducible refine gate_callee (f := 81) rfl ?_); refine goesL_ (some 99) rfl rfl Try.func81 (by kernel_rfl) rfl #[.int .i64 x10_12, .int .i64 x11_12] rfl (by (try simp only [List.map_toArray, List.map_cons, List.map_nil]); first | done | rfl | (simp only [List.length_drop, List.length_take]; rfl)) ?_; (with_reducible refine (ratio_Of.calls k3 x10_12 x11_12 t119 t120 _ A49.out).mono ?_); rintro e w52 ⟨rfl, hb⟩; refine ⟨_, rfl, ?_⟩; have n0_ := Aside0.mk (Kd.R_below (by (with_reducible repeat (first | apply Kd.R_alloc | apply Kd.R_drewN | apply Kd.R_drew)); exact HO_15.out) hb); have n1_ := Aside0.mk (Kd.R_below (by (with_reducible repeat (first | apply Kd.R_alloc | apply Kd.R_drewN | apply Kd.R_drew)); exact HO117.out) hb); have n2_ := Aside0.mk (blk_below (g := gb101) (o := .cells #[.slice none 0 0, .int .i64 0] 26 (0, 0)) (by (with_reducible repeat (first | refine blk_drewN ?_ _ | refine blk_drew ?_ | refine blk_alloc ?_ _)); exact BK101.out) hb); have n3_ := Aside0.mk (blk_below (g := gb102) (o := .cells #[.int .i64 0, .int .i64 0] 28 (0, 0)) (by (with_reducible repeat (first | refine blk_drewN ?_ _ | refine blk_drew ?_ | refine blk_alloc ?_ _)); exact BK102.out) hb); have n4_ := Aside0.mk (below_step (by repeat (first | (with_reducible first | exact HB.out | apply below_alloc | apply pw_below_drewN | apply below_drew1 | refine below_set ?_ GE101.out | refine below_set ?_ GE102.out) | exact HB.out)) hb); clear HO_15; clear HO117; clear BK101; clear BK102; clear HB; have HO_15 := n0_; have HO117 := n1_; have BK101 := n2_; have BK102 := n3_; have HB := n4_; clear n0_ n1_ n2_ n3_ n4_; (try clear hb); (try clear hb2); (try clear hk); (try clear hi); obtain ⟨Ao53, co53, eo53⟩ := Kd.R_slice HO117.out; subst eo53; have hnb54 := NB101_102.out; have hnc54 := NB102_101.out; have hcz55_0 : w52.cell? ⟨gb101, 0, none⟩ = some (.slice none 0 0) := (blk_cell BK101.out 0).trans rfl; have hcz55_1 : w52.cell? ⟨gb101, 1, none⟩ = some (.int .i64 0) := (blk_cell BK101.out 1).trans rfl; have hfz55_0 := blk_frozen BK101.out 0; have hfz55_1 := blk_frozen BK101.out 1; have hcz56_0 : w52.cell? ⟨gb102, 0, none⟩ = some (.int .i64 0) := (blk_cell BK102.out 0).trans rfl; have hcz56_1 : w52.cell? ⟨gb102, 1, none⟩ = some (.int .i64 0) := (blk_cell BK102.out 1).trans rfl; have hfz56_0 := blk_frozen BK102.out 0; have hfz56_1 := blk_frozen BK102.out 1))
         refine bodyPost_ret (results_cc rfl _ _ gb101 gb102 26 28 #[.slice Ao53 t115.length co53, .int .i64 t118] #[.int .i64 t119, .int .i64 t120] (0, 0) (0, 0) _ _ rfl (by (with_reducible repeat (first | refine blk_drewN ?_ _ | refine blk_drew ?_ | refine blk_alloc ?_ _)); refine blk_far ?_ NB101_102.out _; (with_reducible repeat (first | refine blk_drewN ?_ _ | refine blk_drew ?_ | refine blk_alloc ?_ _)); refine blk_far ?_ NB101_102.out _; (with_reducible repeat (first | refine blk_drewN ?_ _ | refine blk_drew ?_ | refine blk_alloc ?_ _)); refine blk_put (cs := #[.slice Ao53 t115.length co53, .int .i64 0]) ?_ 1 _ rfl; (with_reducible repeat (first | refine blk_drewN ?_ _ | refine blk_drew ?_ | refine blk_alloc ?_ _)); refine blk_put (cs := #[.slice none 0 0, .int .i64 0]) ?_ 0 _ rfl; (with_reducible repeat (first | refine blk_drewN ?_ _ | refine blk_drew ?_ | refine blk_alloc ?_ _)); exact BK101.out) Try.underlying26 rfl (by kernel_rfl) rfl (by (with_reducible repeat (first | refine blk_drewN ?_ _ | refine blk_drew ?_ | refine blk_alloc ?_ _)); refine blk_put (cs := #[.int .i64 t119, .int .i64 0]) ?_ 1 _ rfl; (with_reducible repeat (first | refine blk_drewN ?_ _ | refine blk_drew ?_ | refine blk_alloc ?_ _)); refine blk_put (cs := #[.int .i64 0, .int .i64 0]) ?_ 0 _ rfl; (with_reducible repeat (first | refine blk_drewN ?_ _ | refine blk_drew ?_ | refine blk_alloc ?_ _)); refine blk_far ?_ NB102_101.out _; (with_reducible repeat (first | refine blk_drewN ?_ _ | refine blk_drew ?_ | refine blk_alloc ?_ _)); refine blk_far ?_ NB102_101.out _; (with_reducible repeat (first | refine blk_drewN ?_ _ | refine blk_drew ?_ | refine blk_alloc ?_ _)); exact BK102.out) Try.underlying28 rfl (by kernel_rfl)) rfl ?_
         exact ⟨_, by first | rfl | (simp [errW_none, errW_some] <;> rfl) | (simp [*, errW_none, errW_some] <;> rfl), by (with_reducible repeat (first | apply Kd.R_alloc | apply Kd.R_drewN | apply Kd.R_drew)); exact Kd.R_mono (Kd.R_far (p := ⟨gb102, 1, none⟩) (Kd.R_far (p := ⟨gb102, 0, none⟩) (Kd.R_far (p := ⟨gb101, 1, none⟩) (Kd.R_far (p := ⟨gb101, 0, none⟩) (Kd.R_types (Kd.R_types HO117.out BK101.out (by decide)) BK102.out (by decide)) (fun _ hk => hk.1.2) (.slice Ao53 t115.length co53)) (fun _ hk => hk.1.2) (.int .i64 t118)) (fun _ hk => hk.2) (.int .i64 t119)) (fun _ hk => hk.2) (.int .i64 t120)) (fun _ hk => trivial), by repeat (first | (with_reducible first | exact HB.out | apply below_alloc | apply pw_below_drewN | apply below_drew1 | refine below_set ?_ GE101.out | refine below_set ?_ GE102.out) | exact HB.out)⟩
end Go.Proofs.Ytjgbdicbdlollaa.B
namespace Go.Proofs.Ytjgbdicbdlollaa.B
open Go.RowKit Go.Proofs.YtjgbdicbdlollaaW.PrintWords Go.Proofs.YtjgbdicbdlollaaW.PrintLast Go.Proofs.YtjgbdicbdlollaaW.PrintMore
set_option linter.unusedVariables false
set_option linter.unusedSimpArgs false
/-- A place that is a lane: its cell. -/
def laneV (den : Int) (x : S36) : List Value := [.iface 123 (.agg #[.int .i64 x.f0, .int .i64 x.f1, .int .i64 den])]
/-- What a lane costs. -/
def laneCost (x : S36) (den n : Int) : Int := wrap64 (wrap64 (x.f0 * den) + wrap64 (x.f1 * n))
set_option maxHeartbeats 800000 in
set_option maxRecDepth 100000 in
theorem lane_calls (x : S36) (den n : Int) (w : World) : Calls Try.prog 142 #[.agg #[.int .i64 x.f0, .int .i64 x.f1, .int .i64 den], .int .i64 n] w fun e w' => e = .returned (.int .i64 (laneCost x den n)) ∧ Below w.heap.size w w' := by
 have hu123 := Try.underlying123
 have HB := Aside0.mk (Below.refl w.heap.size w)
 unfold laneCost
 go_enter Try.func142, Try.ntmps142
 go_wp2
 go_ret
 exact ⟨by first | rfl | (simp; done), by repeat (first | (with_reducible first | exact HB.out | apply below_alloc | apply pw_below_drewN | apply below_drew1) | exact HB.out)⟩
theorem take_map_succ (l : List S36) (den : Int) (i : Nat) (h : i < l.length) : (l.take (i + 1)).map (laneV den) = (l.take i).map (laneV den) ++ [laneV den (rd_T36 l (i : Int))] := by
  rw [List.take_add_one, List.getElem?_eq_getElem h, List.map_append]
  congr 1
  rw [show rd_T36 l (i : Int) = l[i] from by simp [rd_T36, List.getD, List.getElem?_eq_getElem h]]
  rfl
set_option maxHeartbeats 8000000 in
set_option maxRecDepth 100000 in
theorem places_calls (A : Option Addr) (c : Nat) (l : List S36) (den : Int) (w : World) (hr : Kd.C k36 w A l.length l) (hl : l.length < 1000000) :
  Calls Try.prog 74 #[.slice A l.length c, .int .i64 den] w fun e w' => ∃ v, e = .returned v ∧ Kd.R (Kd.raw 1) 105 w' w.heap.size (fun _ => True) v (l.map (laneV den)) ∧ Below w.heap.size w w' := by
 have hu36 := Try.underlying36
 have HR := Aside0.mk hr
 have HL := Aside0.mk hl
 have HB := Aside0.mk (Below.refl w.heap.size w)
 clear hr hl
 go_enter Try.func74, Try.ntmps74
 go_wp2
 go_loopg [5, 10] l.length (fun kq v5 v10 w' => ∃ i : Nat, v10 = .int .i64 (i : Int) ∧ Aside0 (i + kq = l.length) ∧ Aside0 (Kd.R (Kd.raw 1) 105 w' w.heap.size (fun _ => True) v5 ((l.take i).map (laneV den))) ∧ Aside0 (Below w.heap.size w w'))
 case atStart => exact ⟨0, rfl, ⟨by simp⟩, ⟨Kd.R_nil _ _ _ _ _⟩, HB⟩
 case round =>
  clear HB
  obtain ⟨i, rfl, HI, HO, HB⟩ := hrel
  cases gk with
  | zero =>
   have hi := HI.out
   have c4b : decide ((i : Int) < (l.length : Int)) = false := decide_eq_false (by omega)
   have c4b2 : decide (i < l.length) = false := decide_eq_false (by omega)
   have HO2 := Aside0.mk (show Kd.R (Kd.raw 1) 105 wr w.heap.size (fun _ => True) u5 (l.map (laneV den)) by have h_ := HO.out; rwa [List.take_of_length_le (by omega)] at h_)
   clear hi HO
   go_wp2
   go_ret
   exact ⟨_, rfl, HO2.out, HB.out⟩
  | succ k1 =>
   have hi0 : (0 : Int) ≤ (i : Int) := Int.natCast_nonneg _
   have hi1 : (i : Int) < (l.length : Int) := by have := HI.out; omega
   have c4b : decide ((i : Int) < (l.length : Int)) = true := decide_eq_true hi1
   have c4b2 : decide (i < l.length) = true := decide_eq_true (by omega)
   have hi2 : (i < l.length) = True := eq_true (by omega)
   have HIL := Aside0.mk (show i < l.length by have := HI.out; omega)
   obtain ⟨ad, e, hx_0, hx_1⟩ := at_T36 HR.out (i : Int) hi0 hi1
   cases e
   obtain ⟨x, hx⟩ : ∃ x, rd_T36 l (i : Int) = x := ⟨_, rfl⟩
   have HX := Aside0.mk hx
   rw [hx] at hx_0 hx_1
   clear hx
   simp only [Int.toNat_natCast] at hx_0 hx_1
   replace hx_0 := (HB.out.cell (World.block_lt_of_cell? w _ hx_0)).trans hx_0
   replace hx_1 := (HB.out.cell (World.block_lt_of_cell? w _ hx_1)).trans hx_1
   replace hi0 := eq_true hi0
   replace hi1 := eq_true hi1
   go_upto_region 5 with (fail)
   obtain ⟨gb, hgb⟩ : ∃ gb, wr.heap.size = gb := ⟨_, rfl⟩
   rw [hgb]
   obtain ⟨wq, hwq⟩ : ∃ wq, wr.alloc (.cells #[.int .i64 x.f0, .int .i64 x.f1] 36) = wq := ⟨_, rfl⟩
   rw [hwq]
   have n0_ : Below wr.heap.size wr wq := hwq ▸ below_alloc (Below.refl _ _) _
   have BK := Aside0.mk (hgb ▸ hwq ▸ heap_alloc_new wr _ : wq.heap[gb]? = some (.cells #[.int .i64 x.f0, .int .i64 x.f1] 36 (0, 0)))
   have n1_ := Aside0.mk (below_step HB.out n0_)
   have n2_ := Aside0.mk (Kd.R_below HO.out n0_)
   clear HB HO hgb hwq hx_0 hx_1 n0_
   have HB := n1_; have HO := n2_
   clear n1_ n2_
   have hb_0 : wq.cell? ⟨gb, 0, none⟩ = some (.int .i64 x.f0) := (blk_cell BK.out 0).trans rfl
   have hb_1 : wq.cell? ⟨gb, 1, none⟩ = some (.int .i64 x.f1) := (blk_cell BK.out 1).trans rfl
   obtain ⟨Ao, co, hvo⟩ := Kd.R_slice HO.out
   subst hvo
   go_wp2_with (first | ((with_reducible refine gate_dst (N := 23) rfl ?_); refine Kd.R_append (Kd.raw 1) (w0 := w) w.heap.size rfl (.tmp 14) (.tmp 22) 94 105 .nilIface 16 rfl Try.underlying94 info105 rfl (by decide) (by omega) _ ((l.take i).map (laneV den)) (laneV den x) (laneV den x) (fun _ => True) (fun _ => False) rfl rfl ?aP (fun _ hk => hk.elim) ?aF ?aO ?aB ?aS ?aL ?_; (case aP => exact ⟨rfl, rfl, fun u hu => by rw [show u = _ from List.mem_singleton.1 hu]; rfl⟩); (case aB => exact HB.out); (case aF => exact (fun _ _ => trivial)); (case aO => exact HO.out); (case aS => exact HB.out.size); (case aL => have := HL.out; have := HIL.out; simp only [List.length_map, List.length_take]; omega); intro v9 w9 ho hb hg hat; have HO9 := Aside0.mk ho; have HB9 := Aside0.mk hb; clear ho hb hg hat hb_0 hb_1))
   go_roundg k1
   case measure => omega
   case rel => exact ⟨i + 1, val_succ i (by have := HIL.out; have := HL.out; omega), ⟨by have := HI.out; omega⟩, ⟨by rw [take_map_succ l den i HIL.out, HX.out]; exact HO9.out⟩, HB9⟩
end Go.Proofs.Ytjgbdicbdlollaa.B
namespace Go.Proofs.Ytjgbdicbdlollaa.B
open Go.RowKit Go.Proofs.YtjgbdicbdlollaaW.PrintWords Go.Proofs.YtjgbdicbdlollaaW.PrintLast Go.Proofs.YtjgbdicbdlollaaW.PrintMore
set_option linter.unusedVariables false
set_option linter.unusedSimpArgs false
section
variable {P : Program} {ops : Array Oper} {Q : Exit → Act → World → Prop}
/-- A call through an interface, the value within known. -/
theorem goesI_ {oi : Oper} {N : Option Tmp} {a : Act} {w : World} {K : Act → World → Prop} {f : FuncId} {fn : Func} {x : Operand} {nm : String} {ys : Array Operand} {ts : Array TypeId} {t : TypeId} {rv : Value} (hf : P.funcs[f]? = some fn) (hname : (fn.name == "runtime.NumGoroutine") = false) (hb : fn.body.isSome = true) (args : Array Value)
    (hw : Region.wanted oi (yielded ops a.tmps) = true) (hN : oi.dst = N) (hop : oi.op = .call { callee := .invoke x nm, args := ys, argTypes := ts }) (hx : a.eval x = .iface t rv) (hargs : ys.map a.eval = args) (hm : (method (P.types.size + Made.depth) t rv nm).run P w = .ok (f, rv) w)
    (h : Calls P f (#[rv] ++ args) w fun e w' => ∃ v, e = .returned v ∧ K (a.put N v) w') : if Region.wanted oi (yielded ops a.tmps) = true then Oper.wp P oi a w K Q else K (a.put N undef) w := by
  refine call_ f (#[rv] ++ args) hw hN ?_ h
  have he := enters_ hf hname hb (#[rv] ++ args) w
  have hs : (#[Value.iface t rv] ++ args).extract 1 (#[Value.iface t rv] ++ args).size = args := by
    apply Array.ext'
    simp
  have h0 : (#[Value.iface t rv] ++ args)[0]? = some (Value.iface t rv) := by rw [Array.getElem?_append_left (by simp)]; rfl
  unfold execOp
  simp [hop, resolve, invoke, callMethod, hx, hargs, hm, he, hs, h0]
end
theorem at_lane {W : World} {A : Option Addr} {n : Nat} {l : List S36} {den : Int} (h : Kd.C (Kd.raw 1) W A n (l.map (laneV den))) (i : Nat) (hi : i < n) : ∃ ad, A = some ad ∧ W.cell? (ad.add i) = some (.iface 123 (.agg #[.int .i64 (rd_T36 l (i : Int)).f0, .int .i64 (rd_T36 l (i : Int)).f1, .int .i64 den])) := by
  obtain ⟨ad, e, hc⟩ := h.2.2 (by omega)
  have hl : i < l.length := by have := h.1; simp at this; omega
  obtain ⟨c, hs, hr, hcell⟩ := hc i (laneV den l[i]) (by simp [hl])
  obtain ⟨rfl, _⟩ := hr
  refine ⟨ad, e, ?_⟩
  have := hcell 0 _ rfl
  rw [show rd_T36 l (i : Int) = l[i] from by simp [rd_T36, List.getD, List.getElem?_eq_getElem hl]]
  simpa [Kd.raw] using this
def delL (l : List S36) (nums : List Int) (den : Int) : Nat → Nat → Int → Option Int
  | 0, _, s => some s
  | m + 1, i, s => if i < nums.length then delL l nums den m (i + 1) (wrap64 (s + wrap64 (rd nums (i : Int) * laneCost (rd_T36 l (i : Int)) den (rd nums (i : Int))))) else none
def jam_delay.f (k : Nat) (l0 : List S36) (l1_0 : List Int) (a1_1 : Int) : Option (Int × Int) :=
  if l0.length < 1000000 then (delL l0 l1_0 a1_1 l0.length 0 0).bind fun s => ratio_Of.f k s (wrap64 (a1_1 * a1_1)) else none
theorem jam_delay.mono : ∀ a0 a1 a2 k, LeO (jam_delay.f k a0 a1 a2) (jam_delay.f (k + 1) a0 a1 a2) := by
  intro a0 a1 a2 k
  unfold jam_delay.f
  exact LeO.ite (LeO.bind (LeO.refl _) fun s => ratio_Of.mono _ _ k) (LeO.refl _)
def delay.T5 : Bool × List (List Nat × List Nat) := (true, [([], []), ([], []), ([1], [1]), ([], []), ([2, 3], [2, 3]), ([4], [4]), ([], []), ([], []), ([7], [7]), ([], []), ([8, 9], [8, 9]), ([10], [10]), ([6], [6]), ([12], [12]), ([6, 12, 13], [6]), ([14, 11], [11, 14]), ([5, 15], [5, 15]), ([0, 16], [0, 16]), ([17, 15, 0, 1, 2, 3, 4, 5, 6, 7, 8, 9, 10, 11, 12, 13, 14, 15, 16, 17], [0, 17])])
def delay.B5 : List Nat := [0, 0, 2, 0, 14, 30, 0, 0, 128, 0, 896, 1920, 64, 4160, 64, 20416, 53246, 118783, 249855]
theorem delay.tab5 : rtab .any (opsOf Try.f52 5) = delay.T5 := by kernel_rfl
theorem delay.bits5 : waitsOk delay.T5.2 delay.B5 = true := by kernel_rfl
set_option maxHeartbeats 8000000 in
set_option maxRecDepth 100000 in
theorem jam_delay.calls (k : Nat) (A0 : Option Addr) (c0 : Nat) (l0 : List (S36)) (A1_0 : Option Addr) (c1_0 : Nat) (l1_0 : List Int) (a1_1 : Int) (r1 : Int) (r2 : Int) (w : World) (hr0 : Kd.C k36 w A0 l0.length l0) (hc0 : l0.length ≤ c0) (hr1_0 : Kd.C (Kd.int .i64) w A1_0 l1_0.length l1_0) (hc1_0 : l1_0.length ≤ c1_0) (h : jam_delay.f k l0 l1_0 a1_1 = some (r1, r2)) :
  Calls Try.prog 52 #[.slice A0 l0.length c0, .agg #[.slice A1_0 l1_0.length c1_0, .int .i64 a1_1]] w fun e w' => e = .returned (.agg #[.int .i64 r1, .int .i64 r2]) ∧ Below w.heap.size w w' := by
 have hu26 := Try.underlying26
 have hu28 := Try.underlying28
 have hmf : ∀ (fn : Fn) (first cap : Array Value) (w : World), (Instr.makeFunc fn first cap).run Try.prog w = .ok (.func fn first cap) w := fun _ _ _ _ => rfl
 have HR0 := Aside0.mk hr0
 have HR1 := Aside0.mk hr1_0
 have HB := Aside0.mk (Below.refl w.heap.size w)
 unfold jam_delay.f at h
 split at h
 case isFalse => exact absurd h (by simp)
 rename_i hl
 obtain ⟨s, hs, h⟩ := Option.bind_eq_some_iff.1 h
 have HL := Aside0.mk hl
 have H0 := Aside0.mk hs
 have HOF := Aside0.mk h
 clear hr0 hr1_0 hl hs h
 go_enter Try.func52, Try.ntmps52
 go_upto_region 1 with (first | ((with_reducible refine gate_dst (N := 3) rfl ?_); refine box_event ?hg (N := 3) ?hd (cs := #[.slice A1_0 l1_0.length c1_0, .int .i64 a1_1]) (t := 26) ?hr ?_; (case hd => rfl); (case hg => rfl); (case hr => first | (go_simp; done) | (go_simp; rfl)); intro gb hg w1 hbox hb; have BB := Aside0.mk hbox; have GB := Aside0.mk (show w.heap.size ≤ gb by rw [hg]; exact Nat.le_refl _); clear HB; have HB := Aside0.mk hb; clear hg hbox hb))
 obtain ⟨g4, hg4⟩ : ∃ g4, w1.heap.size = g4 := ⟨_, rfl⟩
 rw [hg4]
 obtain ⟨wa, hwa⟩ : ∃ wa, w1.alloc (.cells #[.int .i64 0, .int .i64 0] 28) = wa := ⟨_, rfl⟩
 rw [hwa]
 have n0_ : Below w1.heap.size w1 wa := hwa ▸ below_alloc (Below.refl _ _) _
 have B4 := Aside0.mk (hg4 ▸ hwa ▸ heap_alloc_new w1 _ : wa.heap[g4]? = some (.cells #[.int .i64 0, .int .i64 0] 28 (0, 0)))
 have G4 := Aside0.mk (show w.heap.size ≤ g4 by rw [← hg4]; exact HB.out.size)
 have n1_ := Aside0.mk (below_step HB.out n0_)
 have n2_ := Aside0.mk (blk_below BB.out n0_)
 clear HB BB hwa hg4 n0_
 have HB := n1_; have BB := n2_
 clear n1_ n2_
 have hb_0 : wa.cell? ⟨gb, 0, none⟩ = some (.slice A1_0 l1_0.length c1_0) := (blk_cell BB.out 0).trans rfl
 have hb_1 : wa.cell? ⟨gb, 1, none⟩ = some (.int .i64 a1_1) := (blk_cell BB.out 1).trans rfl
 go_wp2_with (first | (go_at_call 74; (refine (places_calls A0 c0 l0 a1_1 _ (Kd.C_below HR0.out HB.out) HL.out).mono ?_); rintro e w3 ⟨v1, rfl, ho, hb⟩; obtain ⟨Ap, cp, hvp⟩ := Kd.R_slice ho; subst hvp; have HO := Aside0.mk (Kd.R_lower ho (below_size HB.out)); have n0_ := Aside0.mk (below_step HB.out hb); have n1_ := Aside0.mk (blk_below BB.out hb); have n2_ := Aside0.mk (blk_below B4.out hb); clear HB BB B4 ho hb hb_0 hb_1; have HB := n0_; have BB := n1_; have B4 := n2_; clear n0_ n1_ n2_))
 go_loopg [5, 13] l0.length (fun kq v5 v13 w' => ∃ (i : Nat) (s1 : Int), v5 = .int .i64 s1 ∧ v13 = .int .i64 (i : Int) ∧ Aside0 (i + kq = l0.length) ∧ Aside0 (delL l0 l1_0 a1_1 kq i s1 = some s) ∧ Aside0 (Kd.R (Kd.raw 1) 105 w' w.heap.size (fun _ => True) (.slice Ap (l0.map (laneV a1_1)).length cp) (l0.map (laneV a1_1))) ∧ Aside0 (w'.heap[gb]? = some (.cells #[.slice A1_0 l1_0.length c1_0, .int .i64 a1_1] 26 (0, 0))) ∧ Aside0 (w'.heap[g4]? = some (.cells #[.int .i64 0, .int .i64 0] 28 (0, 0))) ∧ Aside0 (Below w.heap.size w w'))
 case atStart => exact ⟨0, 0, rfl, rfl, ⟨by simp⟩, H0, HO, BB, B4, HB⟩
 case round =>
  clear H0 HO BB B4 HB
  obtain ⟨i, s1, rfl, rfl, HI, HH, HO, BB, B4, HB⟩ := hrel
  have hb_0 : wr.cell? ⟨gb, 0, none⟩ = some (.slice A1_0 l1_0.length c1_0) := (blk_cell BB.out 0).trans rfl
  have hb_1 : wr.cell? ⟨gb, 1, none⟩ = some (.int .i64 a1_1) := (blk_cell BB.out 1).trans rfl
  have hlm : (l0.map (laneV a1_1)).length = l0.length := List.length_map ..
  cases gk with
  | zero =>
   have hi := HI.out
   have c4b : decide ((i : Int) < ((l0.map (laneV a1_1)).length : Int)) = false := decide_eq_false (by omega)
   have c4b2 : decide (i < l0.length) = false := decide_eq_false (by omega)
   have c4b3 : decide ((i : Int) < (l0.length : Int)) = false := decide_eq_false (by omega)
   have hh := HH.out
   simp only [delL, Option.some.injEq] at hh
   subst hh
   clear hi HH
   go_wp2_with (first | (go_at_call 81; (refine (ratio_Of.calls k s1 (wrap64 (a1_1 * a1_1)) r1 r2 _ HOF.out).mono ?_); rintro e w5 ⟨rfl, hb⟩; have n0_ := Aside0.mk (below_step HB.out hb); have n2_ := Aside0.mk (blk_below B4.out hb); clear HB B4 hb hb_0 hb_1; have HB := n0_; have B4 := n2_; clear n0_ n2_; have hcz_0 : w5.cell? ⟨g4, 0, none⟩ = some (.int .i64 0) := (blk_cell B4.out 0).trans rfl; have hcz_1 : w5.cell? ⟨g4, 1, none⟩ = some (.int .i64 0) := (blk_cell B4.out 1).trans rfl; have hfz_0 := blk_frozen B4.out 0; have hfz_1 := blk_frozen B4.out 1))
   refine bodyPost_ret (results_cell_row rfl _ _ g4 28 #[.int .i64 r1, .int .i64 r2] (0, 0) _ rfl (by (with_reducible repeat (first | refine blk_drewN ?_ _ | refine blk_drew ?_ | refine blk_alloc ?_ _)); refine blk_put (cs := #[.int .i64 r1, .int .i64 0]) ?_ 1 _ rfl; (with_reducible repeat (first | refine blk_drewN ?_ _ | refine blk_drew ?_ | refine blk_alloc ?_ _)); refine blk_put (cs := #[.int .i64 0, .int .i64 0]) ?_ 0 _ rfl; (with_reducible repeat (first | refine blk_drewN ?_ _ | refine blk_drew ?_ | refine blk_alloc ?_ _)); exact B4.out) Try.underlying28 rfl (by kernel_rfl)) rfl ?_
   exact ⟨by first | rfl | (simp; done), by repeat (first | (with_reducible first | exact HB.out | apply below_alloc | apply pw_below_drewN | apply below_drew1 | refine below_set ?_ G4.out) | exact HB.out)⟩
  | succ k1 =>
   have hh := HH.out
   rw [delL] at hh
   split at hh
   case isFalse => exact absurd hh (by simp)
   rename_i hin
   have HH2 := Aside0.mk hh
   clear HH hh
   have hi0 : (0 : Int) ≤ (i : Int) := Int.natCast_nonneg _
   have hi1 : (i : Int) < ((l0.map (laneV a1_1)).length : Int) := by have := HI.out; omega
   have hi5 : (i : Int) < (l0.length : Int) := by have := HI.out; omega
   have hi3 : (i : Int) < (l1_0.length : Int) := by omega
   have c4b : decide ((i : Int) < ((l0.map (laneV a1_1)).length : Int)) = true := decide_eq_true hi1
   have c4b2 : decide (i < l0.length) = true := decide_eq_true (by have := HI.out; omega)
   have c4b3 : decide ((i : Int) < (l0.length : Int)) = true := decide_eq_true hi5
   have hi2 : (i < l0.length) = True := eq_true (by have := HI.out; omega)
   have hi4 : (i < l1_0.length) = True := eq_true hin
   have HIL := Aside0.mk (show i < l0.length by have := HI.out; omega)
   obtain ⟨ad, e, hp⟩ := at_lane (Kd.R_reads' HO.out).2.2 i (by have := HI.out; omega)
   cases e
   obtain ⟨ad2, e, hx⟩ := Kd.at_int HR1.out (i : Int) hi0 hi3
   cases e
   simp only [Int.toNat_natCast] at hx
   have hxw := hx
   replace hx := (HB.out.cell (World.block_lt_of_cell? w _ hx)).trans hx
   obtain ⟨x, hxx⟩ : ∃ x, rd_T36 l0 (i : Int) = x := ⟨_, rfl⟩
   obtain ⟨y, hyy⟩ : ∃ y, rd l1_0 (i : Int) = y := ⟨_, rfl⟩
   rw [hxx] at hp
   rw [hyy] at hx hxw
   have HXX := Aside0.mk hxx
   have HYY := Aside0.mk hyy
   have HXW := Aside0.mk hxw
   clear hxx hyy hxw
   replace hi0 := eq_true hi0
   replace hi1 := eq_true hi1
   replace hi3 := eq_true hi3
   replace hi5 := eq_true hi5
   go_upto_region 5 with (fail)
   have n0_ := Aside0.mk (below_step HB.out (below_drew1 (Below.refl _ _)))
   have n1_ := Aside0.mk (blk_below BB.out (below_drew1 (Below.refl _ _)))
   have n2_ := Aside0.mk (blk_below B4.out (below_drew1 (Below.refl _ _)))
   have n3_ := Aside0.mk (Kd.R_below HO.out (below_drew1 (Below.refl _ _)))
   clear HB BB B4 HO hb_0 hb_1 hp hx
   have HB := n0_; have BB := n1_; have B4 := n2_; have HO := n3_
   clear n0_ n1_ n2_ n3_
   refine start_ (n := 19) (S := fun w' => w'.cell? ⟨gb, 0, none⟩ = some (.slice (some ad2) l1_0.length c1_0) ∧ w'.cell? (ad2.add i) = some (.int .i64 y)) (ds := []) #[false, false, false, false, false, false, false, false, false, false, false, false, false, false, false, false, false, false, false] (by kernel_rfl) rfl rfl ⟨(blk_cell BB.out 0).trans rfl, (HB.out.cell (World.block_lt_of_cell? w _ HXW.out)).trans HXW.out⟩ (fun hHeld => ?_); refine with_tabW delay.tab5 delay.bits5 (fun HT_ HW_ => ?_)
   generalize World.drew _ = wd at HB BB B4 HO hHeld ⊢
   refine pure_ (i := 0) (N := some 18) (v := ?_) (a' := ?_) #[true, false, false, false, false, false, false, false, false, false, false, false, false, false, false, false, false, false, false] rfl rfl (any_of HT_.out (by kernel_rfl)) (fun _ _ _ h => h) (Or.inl ⟨by rfl, ?_⟩) ?_ ?_
   rotate_left
   ·intro w'
    go_simp
    first | with_reducible rfl | rfl
   rotate_left
   ·simp only [Act.put, List.setIfInBounds_toArray, List.set_cons_zero, List.set_cons_succ, i64_w, i32_w]
    rfl
   refine pure_ (i := 1) (N := some 19) (v := ?_) (a' := ?_) #[true, true, false, false, false, false, false, false, false, false, false, false, false, false, false, false, false, false, false] rfl rfl (any_of HT_.out (by kernel_rfl)) (fun _ _ _ h => h) (Or.inl ⟨by rfl, ?_⟩) ?_ ?_
   rotate_left
   ·intro w'
    go_simp
    first | with_reducible rfl | rfl
   rotate_left
   ·simp only [Act.put, List.setIfInBounds_toArray, List.set_cons_zero, List.set_cons_succ, i64_w, i32_w]
    rfl
   refine pure_ (i := 3) (N := some 21) (v := ?_) (a' := ?_) #[true, true, false, true, false, false, false, false, false, false, false, false, false, false, false, false, false, false, false] rfl rfl (any_of HT_.out (by kernel_rfl)) (fun _ _ _ h => h) (Or.inl ⟨by rfl, ?_⟩) ?_ ?_
   rotate_left
   ·intro w'
    go_simp
    first | with_reducible rfl | rfl
   rotate_left
   ·simp only [Act.put, List.setIfInBounds_toArray, List.set_cons_zero, List.set_cons_succ, i64_w, i32_w]
    rfl
   refine pure_ (i := 6) (N := some 24) (v := ?_) (a' := ?_) #[true, true, false, true, false, false, true, false, false, false, false, false, false, false, false, false, false, false, false] rfl rfl (any_of HT_.out (by kernel_rfl)) (fun _ _ _ h => h) (Or.inl ⟨by rfl, ?_⟩) ?_ ?_
   rotate_left
   ·intro w'
    go_simp
    first | with_reducible rfl | rfl
   rotate_left
   ·simp only [Act.put, List.setIfInBounds_toArray, List.set_cons_zero, List.set_cons_succ, i64_w, i32_w]
    rfl
   refine pure_ (i := 7) (N := some 25) (v := ?_) (a' := ?_) #[true, true, false, true, false, false, true, true, false, false, false, false, false, false, false, false, false, false, false] rfl rfl (any_of HT_.out (by kernel_rfl)) (fun _ _ _ h => h) (Or.inl ⟨by rfl, ?_⟩) ?_ ?_
   rotate_left
   ·intro w'
    go_simp
    first | with_reducible rfl | rfl
   rotate_left
   ·simp only [Act.put, List.setIfInBounds_toArray, List.set_cons_zero, List.set_cons_succ, i64_w, i32_w]
    rfl
   refine pure_ (i := 9) (N := some 27) (v := ?_) (a' := ?_) #[true, true, false, true, false, false, true, true, false, true, false, false, false, false, false, false, false, false, false] rfl rfl (any_of HT_.out (by kernel_rfl)) (fun _ _ _ h => h) (Or.inl ⟨by rfl, ?_⟩) ?_ ?_
   rotate_left
   ·intro w'
    go_simp
    first | with_reducible rfl | rfl
   rotate_left
   ·simp only [Act.put, List.setIfInBounds_toArray, List.set_cons_zero, List.set_cons_succ, i64_w, i32_w]
    rfl
   refine pure_ (i := 12) (N := some 30) (v := ?_) (a' := ?_) #[true, true, false, true, false, false, true, true, false, true, false, false, true, false, false, false, false, false, false] rfl rfl (any_of HT_.out (by kernel_rfl)) (fun _ _ _ h => h) (Or.inl ⟨by rfl, ?_⟩) ?_ ?_
   rotate_left
   ·intro w'
    go_simp
    first | with_reducible rfl | rfl
   rotate_left
   ·simp only [Act.put, List.setIfInBounds_toArray, List.set_cons_zero, List.set_cons_succ, i64_w, i32_w]
    rfl
   refine pure_ (i := 13) (N := some 31) (v := ?_) (a' := ?_) #[true, true, false, true, false, false, true, true, false, true, false, false, true, true, false, false, false, false, false] rfl rfl (any_of HT_.out (by kernel_rfl)) (fun _ _ _ h => h) (Or.inl ⟨by rfl, ?_⟩) ?_ ?_
   rotate_left
   ·intro w'
    go_simp
    first | with_reducible rfl | rfl
   rotate_left
   ·simp only [Act.put, List.setIfInBounds_toArray, List.set_cons_zero, List.set_cons_succ, i64_w, i32_w]
    rfl
   refine pure_ (i := 14) (N := some 32) (v := ?_) (a' := ?_) #[true, true, false, true, false, false, true, true, false, true, false, false, true, true, true, false, false, false, false] rfl rfl (any_of HT_.out (by kernel_rfl)) (fun _ _ _ h => h) (Or.inl ⟨by rfl, ?_⟩) ?_ ?_
   rotate_left
   ·intro w'
    go_simp
    first | with_reducible rfl | rfl
   rotate_left
   ·simp only [Act.put, List.setIfInBounds_toArray, List.set_cons_zero, List.set_cons_succ, i64_w, i32_w]
    rfl
   refine take_ (i := 2) (N := some 20) (v := ?_) (a' := ?_) #[true, true, true, true, false, false, true, true, false, true, false, false, true, true, true, false, false, false, false] rfl rfl (take_ofW HT_.out HW_.out (by kernel_rfl)) (fun _ _ _ h => h) (Or.inl ⟨by rfl, ?_⟩) hHeld ?_ ?_
   rotate_left
   ·rintro w' ⟨s0, s1⟩
    go_simp
    first | with_reducible rfl | rfl
   rotate_left
   ·simp only [Act.put, List.setIfInBounds_toArray, List.set_cons_zero, List.set_cons_succ, i64_w, i32_w]
    rfl
   refine pure_ (i := 4) (N := some 22) (v := ?_) (a' := ?_) #[true, true, true, true, true, false, true, true, false, true, false, false, true, true, true, false, false, false, false] rfl rfl (any_of HT_.out (by kernel_rfl)) (fun _ _ _ h => h) (Or.inl ⟨by rfl, ?_⟩) ?_ ?_
   rotate_left
   ·intro w'
    go_simp
    first | with_reducible rfl | rfl
   rotate_left
   ·simp only [Act.put, List.setIfInBounds_toArray, List.set_cons_zero, List.set_cons_succ, i64_w, i32_w]
    rfl
   refine take_ (i := 5) (N := some 23) (v := ?_) (a' := ?_) #[true, true, true, true, true, true, true, true, false, true, false, false, true, true, true, false, false, false, false] rfl rfl (take_ofW HT_.out HW_.out (by kernel_rfl)) (fun _ _ _ h => h) (Or.inl ⟨by rfl, ?_⟩) hHeld ?_ ?_
   rotate_left
   ·rintro w' ⟨s0, s1⟩
    go_simp
    first | with_reducible rfl | rfl
   rotate_left
   ·simp only [Act.put, List.setIfInBounds_toArray, List.set_cons_zero, List.set_cons_succ, i64_w, i32_w]
    rfl
   refine take_ (i := 8) (N := some 26) (v := ?_) (a' := ?_) #[true, true, true, true, true, true, true, true, true, true, false, false, true, true, true, false, false, false, false] rfl rfl (take_ofW HT_.out HW_.out (by kernel_rfl)) (fun _ _ _ h => h) (Or.inl ⟨by rfl, ?_⟩) hHeld ?_ ?_
   rotate_left
   ·rintro w' ⟨s0, s1⟩
    go_simp
    first | with_reducible rfl | rfl
   rotate_left
   ·simp only [Act.put, List.setIfInBounds_toArray, List.set_cons_zero, List.set_cons_succ, i64_w, i32_w]
    rfl
   refine pure_ (i := 10) (N := some 28) (v := ?_) (a' := ?_) #[true, true, true, true, true, true, true, true, true, true, true, false, true, true, true, false, false, false, false] rfl rfl (any_of HT_.out (by kernel_rfl)) (fun _ _ _ h => h) (Or.inl ⟨by rfl, ?_⟩) ?_ ?_
   rotate_left
   ·intro w'
    go_simp
    first | with_reducible rfl | rfl
   rotate_left
   ·simp only [Act.put, List.setIfInBounds_toArray, List.set_cons_zero, List.set_cons_succ, i64_w, i32_w]
    rfl
   refine take_ (i := 11) (N := some 29) (v := ?_) (a' := ?_) #[true, true, true, true, true, true, true, true, true, true, true, true, true, true, true, false, false, false, false] rfl rfl (take_ofW HT_.out HW_.out (by kernel_rfl)) (fun _ _ _ h => h) (Or.inl ⟨by rfl, ?_⟩) hHeld ?_ ?_
   rotate_left
   ·rintro w' ⟨s0, s1⟩
    go_simp
    first | with_reducible rfl | rfl
   rotate_left
   ·simp only [Act.put, List.setIfInBounds_toArray, List.set_cons_zero, List.set_cons_succ, i64_w, i32_w]
    rfl
   refine one_ (i := 15) (N := some 33) #[true, true, true, true, true, true, true, true, true, true, true, true, true, true, true, true, false, false, false] rfl rfl (one_of HT_.out (by kernel_rfl)) (by decide) (fun K hK => ?_)
   refine goesI_ (t := 123) (rv := .agg #[.int .i64 x.f0, .int .i64 x.f1, .int .i64 a1_1]) Try.func142 (by kernel_rfl) rfl #[.int .i64 y] (by rfl) rfl rfl rfl (by (try simp only [List.map_toArray, List.map_cons, List.map_nil]); first | done | rfl) (by kernel_rfl) ?_
   refine (lane_calls x a1_1 y _).mono ?_
   rintro e w5 ⟨rfl, hb⟩
   refine ⟨_, rfl, ?_⟩
   have n0_ := Aside0.mk (below_step HB.out hb)
   have n1_ := Aside0.mk (blk_below BB.out hb)
   have n2_ := Aside0.mk (blk_below B4.out hb)
   have n3_ := Aside0.mk (Kd.R_below HO.out hb)
   clear HB BB B4 HO hb
   have HB := n0_; have BB := n1_; have B4 := n2_; have HO := n3_
   clear n0_ n1_ n2_ n3_
   refine hK.out _ _ ⟨(blk_cell BB.out 0).trans rfl, (HB.out.cell (World.block_lt_of_cell? w _ HXW.out)).trans HXW.out⟩ (fun hHeld => ?_)
   clear hK K
   refine norm_ (a' := ?_) ?_ ?_
   rotate_left
   ·show Act.put _ (some 33) _ = _
    simp only [Act.put, List.setIfInBounds_toArray, List.set_cons_zero, List.set_cons_succ, i64_w, i32_w]
    rfl
   refine pure_ (i := 16) (N := some 34) (v := ?_) (a' := ?_) #[true, true, true, true, true, true, true, true, true, true, true, true, true, true, true, true, true, false, false] rfl rfl (any_of HT_.out (by kernel_rfl)) (fun _ _ _ h => h) (Or.inl ⟨by rfl, ?_⟩) ?_ ?_
   rotate_left
   ·intro w'
    go_simp
    first | with_reducible rfl | rfl
   rotate_left
   ·simp only [Act.put, List.setIfInBounds_toArray, List.set_cons_zero, List.set_cons_succ, i64_w, i32_w]
    rfl
   refine pure_ (i := 17) (N := some 35) (v := ?_) (a' := ?_) #[true, true, true, true, true, true, true, true, true, true, true, true, true, true, true, true, true, true, false] rfl rfl (any_of HT_.out (by kernel_rfl)) (fun _ _ _ h => h) (Or.inl ⟨by rfl, ?_⟩) ?_ ?_
   rotate_left
   ·intro w'
    go_simp
    first | with_reducible rfl | rfl
   rotate_left
   ·simp only [Act.put, List.setIfInBounds_toArray, List.set_cons_zero, List.set_cons_succ, i64_w, i32_w]
    rfl
   refine pure_ (i := 18) (N := some 5) (v := ?_) (a' := ?_) #[true, true, true, true, true, true, true, true, true, true, true, true, true, true, true, true, true, true, true] rfl rfl (any_of HT_.out (by kernel_rfl)) (fun _ _ _ h => h) (Or.inl ⟨by rfl, ?_⟩) ?_ ?_
   rotate_left
   ·intro w'
    go_simp
    first | with_reducible rfl | rfl
   rotate_left
   ·simp only [Act.put, List.setIfInBounds_toArray, List.set_cons_zero, List.set_cons_succ, i64_w, i32_w]
    rfl
   refine done_ (done_of HT_.out (by kernel_rfl)) ?_
   try go_wp2
   go_roundg k1
   case measure => omega
   case rel => exact ⟨i + 1, _, rfl, val_succ i (by have := HIL.out; have := HL.out; omega), ⟨by have := HI.out; omega⟩, ⟨by have := HH2.out; rw [HXX.out, HYY.out] at this; exact this⟩, HO, BB, B4, HB⟩
end Go.Proofs.Ytjgbdicbdlollaa.B
