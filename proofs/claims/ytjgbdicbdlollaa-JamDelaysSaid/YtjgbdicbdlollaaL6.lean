/- Texts behind the row of JamDelays, part 6: contracts of the functions it reaches, words that their walks use, and lemmas in plain Lean. -/
import Derived.Below
import Derived.Deep.Draws
import Derived.Deep.AppendLies
import Derived.Maps.AppendAt
import Derived.OwnWalk
import Derived.Laws.BytesArg
import Derived.Laws.MakeOwn
import Derived.Laws.OwnMore
import Derived.Deep.OwnRows
import Derived.Tactics
import Derived.Lib.ConvBytes
import Derived.Laws.Slices
import Derived.WalkKit
import Derived.KernelRfl
import Derived.RowKit3
import Derived.Deep.LoopGhost
import Derived.Deep.QuietTactic
import Derived.BigQuiet
import Derived.WideLaws
import Derived.Deep.DeepCutAuto
import Derived.Deep.CutBlock
import Derived.Deep.RegionHeld3
import Derived.Laws.Rows
import Derived.Lib.AppendStr
import Derived.ArgAppend
import Derived.Laws.IdiomCopy
import Derived.RowKit
import Derived.OrdersHeld
import Derived.Laws.BitsLemmas
import Derived.Laws.StructEq
import Derived.Test.YtjgbdicbdlollaaProg
import Derived.WalkSpells
import Derived.MapKept
import Derived.Maps.RangeWalk
import Derived.Shelf.SlSortCmp.SmallK
import Derived.Ground.SlsfProg
import Derived.Deep.Slices
import Derived.Deep.Fields
import Derived.ChangeSame
import Derived.ChangeSlices
import Derived.Sort.LotA
import Derived.Test.YtjgbdicbdlollaaL1
import Derived.Test.YtjgbdicbdlollaaL2
import Derived.Test.YtjgbdicbdlollaaL3
import Derived.Test.YtjgbdicbdlollaaL4
import Derived.Test.YtjgbdicbdlollaaL5
namespace Go.Proofs.Ytjgbdicbdlollaa.B
open Go.RowKit Go.ChangeShapes Go.WideShapes Go.Deep Go.Proofs.YtjgbdicbdlollaaW.PrintWords Go.Proofs.YtjgbdicbdlollaaW.PrintLast Go.Proofs.YtjgbdicbdlollaaW.PrintMore
/-- A lane's two numbers are whole numbers of 64 bits. -/
def okS36 (x : S36) : Prop := (Lit.int .i64 x.f0).wf = true ∧ (Lit.int .i64 x.f1).wf = true
section
variable {H : Type} {enc : TypeId × Value → H} {w : World} {spare : Nat → Bool} {held : Bool}
set_option maxRecDepth 100000 in
theorem open_lane {fuel : Nat} {cs : List Value} {x : DataW H × List MemPlace} (h : DataW.trod enc Try.prog w 0 spare held fuel 36 cs = some x) : ∃ s : S36, cs = [.int .i64 s.f0, .int .i64 s.f1] ∧ okS36 s := by
  obtain ⟨xs, n, _, _, hlen, hxl, hf⟩ := DataW.trod_struct Try.underlying36 h
  have h36 : Try.prog.cellsOf 36 = 2 := by kernel_rfl
  have h3 : Try.prog.cellsOf 3 = 1 := by kernel_rfl
  rw [h36] at hlen
  match cs, hlen with
  | [c0, c1], _ =>
    have hsz : xs.length = 2 := hxl
    match xs, hsz with
    | [y0, y1], _ =>
      have g0 : DataW.trod enc Try.prog w 0 spare held n 3 (([c0, c1].drop 0).take (Try.prog.cellsOf 3)) = some y0 := hf 0 _ rfl
      have g1 : DataW.trod enc Try.prog w 0 spare held n 3 (([c0, c1].drop 1).take (Try.prog.cellsOf 3)) = some y1 := hf 1 _ rfl
      rw [h3] at g0 g1
      obtain ⟨n0, e0, _, w0⟩ := DataW.trod_int Try.underlying3 g0
      obtain ⟨n1, e1, _, w1⟩ := DataW.trod_int Try.underlying3 g1
      obtain rfl : c0 = .int .i64 n0 := by injection e0
      obtain rfl : c1 = .int .i64 n1 := by injection e1
      exact ⟨⟨n0, n1⟩, rfl, w0, w1⟩
theorem open_lanes {a : Option Addr} {len cap : Nat} {d : DataW H} {p : List MemPlace} (h : DataW.Trod enc Try.prog w 0 spare held 22 (.slice a len cap) d p) :
    ∃ l : List S36, Kd.C k36 w a l.length l ∧ l.length = len ∧ len ≤ cap ∧ cap ≤ maxLen ∧ ∀ x ∈ l, okS36 x := by
  obtain ⟨fuel, hf⟩ := h
  rcases open_slice Try.underlying22 hf with ⟨hcs, _⟩ | ⟨x, l, c, m, n, D, Pl, hcs, _, hl, hm, hmm, _, hi⟩
  · simp [Value.cells] at hcs
    obtain ⟨rfl, rfl, rfl⟩ := hcs
    exact ⟨[], ⟨rfl, by simp, fun h => absurd h (by simp)⟩, rfl, Nat.le_refl _, by simp, by simp⟩
  · simp [Value.cells] at hcs
    obtain ⟨rfl, rfl, rfl⟩ := hcs
    have hlm : len ≤ m := by rw [hmm]; split <;> omega
    have h36 : Try.prog.cellsOf 36 = 2 := by kernel_rfl
    rw [h36] at hi
    have hex : ∀ i : Nat, ∃ s : S36, i < len → okS36 s ∧ w.cells? 0 (x.add (i * 2)) 2 = some [.int .i64 s.f0, .int .i64 s.f1] := by
      intro i
      by_cases h : i < len
      · obtain ⟨cs', hc, ht⟩ := hi i (by omega)
        obtain ⟨s, rfl, hs⟩ := open_lane ht
        exact ⟨s, fun _ => ⟨hs, hc⟩⟩
      · exact ⟨z36, fun h' => absurd h' h⟩
    obtain ⟨f, hf⟩ := Classical.axiomOfChoice hex
    have hll : ((List.range len).map f).length = len := by simp
    refine ⟨(List.range len).map f, ⟨rfl, by rw [hll]; simp only [maxLen] at hm; omega, fun _ => ⟨x, rfl, fun j p hj => ?_⟩⟩, hll, hl, hm, fun y hy => ?_⟩
    · have hjl : j < len := by have := (List.getElem?_eq_some_iff.1 hj).1; rw [hll] at this; exact this
      rw [List.getElem?_map, List.getElem?_range hjl] at hj
      injection hj with hj
      subst hj
      obtain ⟨hs, hc⟩ := hf j hjl
      obtain ⟨_, _, hat⟩ := World.cells?_some hc
      refine ⟨[.int .i64 (f j).f0, .int .i64 (f j).f1], rfl, k36_mk w (f j), fun i u hu => ?_⟩
      have hi2 : i < 2 := (List.getElem?_eq_some_iff.1 hu).1
      show w.cell? (x.add (j * 2 + i)) = some u
      rw [← Go.Deep.add_add, hat i hi2, hu]
    · obtain ⟨j, hj, rfl⟩ := List.mem_map.1 hy
      exact (hf j (List.mem_range.1 hj)).1
end
end Go.Proofs.Ytjgbdicbdlollaa.B
namespace Go.Proofs.Ytjgbdicbdlollaa.B
open Go.RowKit Go.ChangeShapes Go.WideShapes Go.Deep Go.Proofs.YtjgbdicbdlollaaW.PrintWords Go.Proofs.YtjgbdicbdlollaaW.PrintLast Go.Proofs.YtjgbdicbdlollaaW.PrintMore
def okI (x : Int) : Prop := (Lit.int .i64 x).wf = true
def okRow (l : List Int) : Prop := l.length ≤ maxLen ∧ ∀ x ∈ l, okI x
section
variable {H : Type} {enc : TypeId × Value → H} {w : World} {spare : Nat → Bool} {held : Bool}
theorem open_list {α : Type} [Inhabited α] (d : Kd α) (ok : α → Prop) {t e : TypeId} (ht : Try.prog.underlying t = some (.slice e)) (hsz : Try.prog.cellsOf e = d.sz)
    (ho : ∀ (fuel : Nat) (cs : List Value) (x : DataW H × List MemPlace), DataW.trod enc Try.prog w 0 spare held fuel e cs = some x → ∃ s, d.K w s cs ∧ ok s)
    {fuel : Nat} {cs : List Value} {x : DataW H × List MemPlace} (h : DataW.trod enc Try.prog w 0 spare held fuel t cs = some x) :
    ∃ (A : Option Addr) (l : List α) (c : Nat), cs = [.slice A l.length c] ∧ l.length ≤ c ∧ c ≤ maxLen ∧ Kd.C d w A l.length l ∧ ∀ x ∈ l, ok x := by
  rcases open_slice ht h with ⟨rfl, _⟩ | ⟨x, l, c, m, n, D, Pl, rfl, _, hl, hm, hmm, _, hi⟩
  · exact ⟨none, [], 0, rfl, Nat.le_refl _, by simp, Kd.C_nil d w, by simp⟩
  · have hlm : l ≤ m := by rw [hmm]; split <;> omega
    rw [hsz] at hi
    have hex : ∀ i : Nat, ∃ s : α, i < l → ok s ∧ ∃ cs', d.K w s cs' ∧ w.cells? 0 (x.add (i * d.sz)) d.sz = some cs' := by
      intro i
      by_cases h : i < l
      · obtain ⟨cs', hc, ht⟩ := hi i (by omega)
        obtain ⟨s, hs, hk⟩ := ho _ _ _ ht
        exact ⟨s, fun _ => ⟨hk, cs', hs, hc⟩⟩
      · exact ⟨default, fun h' => absurd h' h⟩
    obtain ⟨f, hf⟩ := Classical.axiomOfChoice hex
    have hll : ((List.range l).map f).length = l := by simp
    refine ⟨some x, (List.range l).map f, c, by rw [hll], by rw [hll]; exact hl, hm, ⟨rfl, by rw [hll]; simp only [maxLen] at hm; omega, fun _ => ⟨x, rfl, fun j p hj => ?_⟩⟩, fun y hy => ?_⟩
    · have hjl : j < l := by have := (List.getElem?_eq_some_iff.1 hj).1; rw [hll] at this; exact this
      rw [List.getElem?_map, List.getElem?_range hjl] at hj
      injection hj with hj
      subst hj
      obtain ⟨hs, cs', hK, hc⟩ := hf j hjl
      obtain ⟨_, hlen, hat⟩ := World.cells?_some hc
      refine ⟨cs', hlen, hK, fun i u hu => ?_⟩
      have hi2 : i < d.sz := by have := (List.getElem?_eq_some_iff.1 hu).1; omega
      rw [← Go.Deep.add_add, hat i hi2, hu]
    · obtain ⟨j, hj, rfl⟩ := List.mem_map.1 hy
      exact (hf j (List.mem_range.1 hj)).1
theorem open_int3 (fuel : Nat) (cs : List Value) (x : DataW H × List MemPlace) (h : DataW.trod enc Try.prog w 0 spare held fuel 3 cs = some x) : ∃ s : Int, (Kd.int .i64).K w s cs ∧ okI s := by
  obtain ⟨n0, e0, _, w0⟩ := DataW.trod_int Try.underlying3 h
  subst e0
  exact ⟨n0, rfl, w0⟩
theorem open_row24 {fuel : Nat} {cs : List Value} {x : DataW H × List MemPlace} (h : DataW.trod enc Try.prog w 0 spare held fuel 24 cs = some x) :
    ∃ (A : Option Addr) (l : List Int) (c : Nat), cs = [.slice A l.length c] ∧ l.length ≤ c ∧ c ≤ maxLen ∧ Kd.C (Kd.int .i64) w A l.length l ∧ ∀ x ∈ l, okI x :=
  open_list (Kd.int .i64) okI Try.underlying24 (by kernel_rfl) open_int3 h
end
end Go.Proofs.Ytjgbdicbdlollaa.B
namespace Go.Proofs.Ytjgbdicbdlollaa.B
open Go.RowKit Go.ChangeShapes Go.WideShapes Go.Deep Go.Proofs.YtjgbdicbdlollaaW.PrintWords Go.Proofs.YtjgbdicbdlollaaW.PrintLast Go.Proofs.YtjgbdicbdlollaaW.PrintMore
section
variable {H : Type} {enc : TypeId × Value → H} {w : World} {spare : Nat → Bool} {held : Bool}
set_option maxRecDepth 100000 in
theorem open_parts {r : Reach} {b0 : Nat} {v : Value} {d : DataW H} {ps : List MemPlace} (hval : Value.okWide Try.prog w r b0 26 v) (h : DataW.Trod enc Try.prog w 0 spare held 26 v d ps) :
    ∃ (A : Option Addr) (l : List Int) (c : Nat) (a : Int), v = .agg #[.slice A l.length c, .int .i64 a] ∧
      (l.length ≤ c ∧ c ≤ maxLen ∧ Kd.C (Kd.int .i64) w A l.length l ∧ ∀ x ∈ l, okI x) ∧ okI a := by
  obtain ⟨fuel, hf⟩ := h
  obtain ⟨cs, rfl, _⟩ := okWide_struct Try.underlying26 hval
  obtain ⟨xs, n, _, _, hlen, hxl, hg⟩ := DataW.trod_struct Try.underlying26 hf
  have h26 : Try.prog.cellsOf 26 = 2 := by kernel_rfl
  have h24 : Try.prog.cellsOf 24 = 1 := by kernel_rfl
  have h3 : Try.prog.cellsOf 3 = 1 := by kernel_rfl
  have hcs : ∃ u0 u1, cs = #[u0, u1] := by
    have hl2 : cs.toList.length = 2 := by rw [h26] at hlen; exact hlen
    match hc : cs.toList, hl2 with
    | [u0, u1], _ => exact ⟨u0, u1, by rw [← hc]⟩
  obtain ⟨u0, u1, rfl⟩ := hcs
  have hsz : xs.length = 2 := hxl
  match xs, hsz with
  | [y0, y1], _ =>
    have g0 : DataW.trod enc Try.prog w 0 spare held n 24 (([u0, u1].drop 0).take (Try.prog.cellsOf 24)) = some y0 := hg 0 _ rfl
    have g1 : DataW.trod enc Try.prog w 0 spare held n 3 (([u0, u1].drop 1).take (Try.prog.cellsOf 3)) = some y1 := hg 1 _ rfl
    rw [h24] at g0
    rw [h3] at g1
    obtain ⟨A, l, c, e0, k0⟩ := open_row24 g0
    obtain ⟨n1, e1, _, w1⟩ := DataW.trod_int Try.underlying3 g1
    obtain rfl : u0 = .slice A l.length c := by injection e0
    obtain rfl : u1 = .int .i64 n1 := by injection e1
    exact ⟨A, l, c, n1, rfl, k0, w1⟩
end
end Go.Proofs.Ytjgbdicbdlollaa.B
namespace Go.Proofs.Ytjgbdicbdlollaa.B
open Go.RowKit Go.Proofs.YtjgbdicbdlollaaW.PrintWords Go.Proofs.YtjgbdicbdlollaaW.PrintLast Go.Proofs.YtjgbdicbdlollaaW.PrintMore
def trishawlaw02_JamDelays.Pure : Prop := ∀ (l0 : List S36) (l1_0 : List Int) (a1_1 : Int), l0.length ≤ maxLen → (∀ x ∈ l0, okS36 x) → okRow l1_0 → ∃ k, trishawlaw02_JamDelays.f k l0 l1_0 a1_1 = some true
theorem trishawlaw02_JamDelays.walk (P : trishawlaw02_JamDelays.Pure) (w : World) (A0 : Option Addr) (c0 : Nat) (l0 : List S36) (hr0 : Kd.C k36 w A0 l0.length l0) (hc0 : l0.length ≤ c0) (A1_0 : Option Addr) (c1_0 : Nat) (l1_0 : List Int) (hr1_0 : Kd.C (Kd.int .i64) w A1_0 l1_0.length l1_0) (hc1_0 : l1_0.length ≤ c1_0) (a1_1 : Int) (h0_0 : l0.length ≤ maxLen) (h1_0 : (∀ x ∈ l0, okS36 x)) (h2_0 : okRow l1_0) :
    Calls Try.prog 13 #[.slice A0 l0.length c0, .agg #[.slice A1_0 l1_0.length c1_0, .int .i64 a1_1]] w fun e w' => e = .returned (.bool true) ∧ Below w.heap.size w w' := by
  obtain ⟨k, h⟩ := P l0 l1_0 a1_1 h0_0 h1_0 h2_0
  refine (trishawlaw02_JamDelays.calls k A0 c0 l0 A1_0 c1_0 l1_0 a1_1 true w hr0 hc0 hr1_0 hc1_0 h).mono ?_
  rintro e w' ⟨rfl, hd⟩
  exact ⟨rfl, hd⟩
end Go.Proofs.Ytjgbdicbdlollaa.B
namespace Go.Proofs.Ytjgbdicbdlollaa.B
open Go.RowKit Go.Proofs.YtjgbdicbdlollaaW.PrintWords Go.Proofs.YtjgbdicbdlollaaW.PrintLast Go.Proofs.YtjgbdicbdlollaaW.PrintMore
set_option linter.unusedVariables false
set_option linter.unusedSimpArgs false
def sm (x : Int) : Prop := -4611686018427387904 ≤ x ∧ x ≤ 4611686018427387904
theorem wsm {x : Int} (h : sm x) : wrap64 x = x := by unfold sm at h; unfold wrap64; omega
theorem absmx {a : Int} (h : sm a) : mx a (wrap64 (-a)) = (a.natAbs : Int) := by
  unfold sm at h
  rw [wsm (by unfold sm; omega)]
  unfold mx
  split <;> omega
theorem wrapN (i : Nat) (h : i < 1000000) : wrap64 ((i : Int) + 1) = ((i + 1 : Nat) : Int) := by unfold wrap64; omega
theorem gcd_step (a b : Int) : Int.gcd b (a.tmod b) = Int.gcd a b := by
  show Nat.gcd b.natAbs (a.tmod b).natAbs = Nat.gcd a.natAbs b.natAbs
  rw [Int.natAbs_tmod, Nat.gcd_comm a.natAbs b.natAbs, Nat.gcd_rec b.natAbs a.natAbs, Nat.gcd_comm]
theorem sm_tmod {a b : Int} (ha : sm a) (hb : sm b) : sm (a.tmod b) := by
  have h := Int.natAbs_tmod a b
  have h2 : a.natAbs % b.natAbs ≤ a.natAbs := Nat.mod_le _ _
  unfold sm at *
  omega
theorem tmod_lt {a b : Int} (h0 : b ≠ 0) : (a.tmod b).natAbs < b.natAbs := by
  rw [Int.natAbs_tmod]
  exact Nat.mod_lt _ (by omega)
theorem divisor_ev : ∀ (n : Nat) (a b : Int), b.natAbs ≤ n → sm a → sm b → Ev (fun k => ratio_divisor.f k a b) (Int.gcd a b : Int)
  | n, a, b, hn, ha, hb => by
    by_cases h0 : b = 0
    · subst h0
      refine Ev.step (f := fun _ => some (a.natAbs : Int)) (fun k => ?_) (by simpa using Ev.now (a.natAbs : Int))
      simp only [ratio_divisor.f, if_true, absmx ha]
    · cases n with
      | zero => omega
      | succ n =>
        have ih := divisor_ev n b (a.tmod b) (by have := tmod_lt (a := a) h0; omega) hb (sm_tmod ha hb)
        rw [gcd_step] at ih
        refine Ev.step (f := fun k => (ratio_divisor.f k b (a.tmod b)).bind fun t => some t) (fun k => ?_) (Ev.bind ih (Ev.now _))
        simp only [ratio_divisor.f, if_neg h0]
theorem gcd_ev : ∀ (n : Nat) (a b : Int), b.natAbs ≤ n → sm a → sm b → Ev (fun k => trishawref01_Gcd.f k a b) (Int.gcd a b : Int)
  | n, a, b, hn, ha, hb => by
    unfold trishawref01_Gcd.f
    by_cases h0 : b = 0
    · subst h0
      refine Ev.step (f := fun _ => some (a.natAbs : Int)) (fun k => ?_) (by simpa using Ev.now (a.natAbs : Int))
      simp only [trishawref01_Gcd.l0, if_true, absmx ha]
    · cases n with
      | zero => omega
      | succ n =>
        have ih := gcd_ev n b (a.tmod b) (by have := tmod_lt (a := a) h0; omega) hb (sm_tmod ha hb)
        rw [gcd_step] at ih
        unfold trishawref01_Gcd.f at ih
        refine Ev.step (f := fun k => trishawref01_Gcd.l0 k b (a.tmod b)) (fun k => ?_) ih
        simp only [trishawref01_Gcd.l0, if_neg h0]
theorem sm_gcd {a b : Int} (ha : sm a) (h0 : 0 < a) : sm (Int.gcd a b : Int) ∧ 0 < (Int.gcd a b : Int) ∧ (Int.gcd a b : Int) ≤ a := by
  have h1 : Int.gcd a b ∣ a.natAbs := Nat.gcd_dvd_left _ _
  have h2 := Nat.le_of_dvd (by omega) h1
  have h3 : 0 < Int.gcd a b := Nat.gcd_pos_of_pos_left _ (by omega)
  unfold sm at *
  omega
theorem sm_tdiv {a b : Int} (ha : sm a) (hb : 0 < b) : sm (a.tdiv b) := by
  have h1 : (a.tdiv b).natAbs = a.natAbs / b.natAbs := Int.natAbs_tdiv a b
  have h2 : a.natAbs / b.natAbs ≤ a.natAbs := Nat.div_le_self _ _
  unfold sm at *
  omega
theorem rd_mem2 (l : List Int) (i : Nat) (h : i < l.length) : rd l (i : Int) ∈ l := by
  have : rd l (i : Int) = l[i] := by simp [rd, List.getD, List.getElem?_eq_getElem h]
  rw [this]; exact List.getElem_mem h
theorem gcd_abs (a b : Int) : Int.gcd a (b.natAbs : Int) = Int.gcd a b := by
  show Nat.gcd a.natAbs ((b.natAbs : Int)).natAbs = Nat.gcd a.natAbs b.natAbs
  rw [Int.natAbs_natCast]
/-- A quotient in lowest terms. -/
def ratR (a b : Int) : Int × Int := (Int.tdiv a (Int.gcd a b : Int), Int.tdiv b (Int.gcd a b : Int))
theorem gcd_posr {a b : Int} (hb : 0 < b) : 0 < (Int.gcd a b : Int) := by
  have : 0 < Int.gcd a b := Nat.gcd_pos_of_pos_right _ (by omega)
  omega
theorem of_ev {a b : Int} (ha : sm a) (hb : sm b) (h0 : 0 < b) : Ev (fun k => ratio_Of.f k a b) (ratR a b) := by
  have hg := gcd_posr (a := a) h0
  unfold ratio_Of.f
  refine Ev.bind (divisor_ev _ a b (Nat.le_refl _) ha hb) ?_
  refine Ev.congr (f := fun _ => some (ratR a b)) (fun k => ?_) (Ev.now _)
  rw [if_neg (by omega), if_neg (by omega), wsm (sm_tdiv ha hg), wsm (sm_tdiv hb hg)]
  rfl
theorem ratio_ev {a b : Int} (ha : sm a) (hb : sm b) (h0 : 0 < b) : Ev (fun k => trishawref01_Ratio.f k a b) (ratR a b) := by
  have hg := gcd_posr (a := a) h0
  unfold trishawref01_Ratio.f
  rw [absmx ha]
  have h1 := gcd_ev _ (a.natAbs : Int) b (Nat.le_refl _) (by unfold sm at *; omega) hb
  have h2 : Int.gcd (a.natAbs : Int) b = Int.gcd a b := by
    show Nat.gcd ((a.natAbs : Int)).natAbs b.natAbs = Nat.gcd a.natAbs b.natAbs
    rw [Int.natAbs_natCast]
  rw [h2] at h1
  refine Ev.bind h1 ?_
  refine Ev.congr (f := fun _ => some (ratR a b)) (fun k => ?_) (Ev.now _)
  rw [if_neg (by omega), wsm (sm_tdiv ha hg), wsm (sm_tdiv hb hg)]
  rfl
end Go.Proofs.Ytjgbdicbdlollaa.B
namespace Go.Proofs.Ytjgbdicbdlollaa.B
open Go.RowKit Go.Sort Go.Proofs.YtjgbdicbdlollaaW.PrintWords Go.Proofs.YtjgbdicbdlollaaW.PrintLast Go.Proofs.YtjgbdicbdlollaaW.PrintMore
set_option linter.unusedVariables false
set_option linter.unusedSimpArgs false
def okL (x : S36) : Prop := 0 ≤ x.f0 ∧ x.f0 ≤ 10 ∧ 1 ≤ x.f1 ∧ x.f1 ≤ 10
def sumL (f : S36 → Int) : List S36 → Int
  | [] => 0
  | x :: l => f x + sumL f l
theorem sumL_le {f g : S36 → Int} : ∀ {l : List S36}, (∀ x ∈ l, f x ≤ g x) → sumL f l ≤ sumL g l
  | [], _ => Int.le_refl _
  | x :: l, h => by
    have h1 := h x (by simp)
    have h2 := sumL_le (l := l) fun y hy => h y (by simp [hy])
    simp only [sumL]; omega
theorem sumL_const (c : Int) : ∀ l : List S36, sumL (fun _ => c) l = c * l.length
  | [] => by simp [sumL]
  | x :: l => by simp only [sumL, sumL_const c l, List.length_cons, Int.natCast_add, Int.mul_add]; simp; omega
theorem sumL_pos {f : S36 → Int} {l : List S36} (h : ∀ x ∈ l, 0 ≤ f x) : 0 ≤ sumL f l := by
  have := sumL_le (f := fun _ => 0) (g := f) h
  rw [sumL_const] at this; simpa using this
/-- A time num/den is good: its own set of lanes gives it. -/
def Good (w : S36 → Int) (p : Int) (l : List S36) (n d : Int) : Prop :=
  0 < d ∧ n = p + sumL (fun x => if x.f0 * d < n then x.f0 * w x else 0) l ∧ d = sumL (fun x => if x.f0 * d < n then w x else 0) l
end Go.Proofs.Ytjgbdicbdlollaa.B
namespace Go.Proofs.Ytjgbdicbdlollaa.B
open Go.RowKit Go.Sort Go.Proofs.YtjgbdicbdlollaaW.PrintWords Go.Proofs.YtjgbdicbdlollaaW.PrintLast Go.Proofs.YtjgbdicbdlollaaW.PrintMore
set_option linter.unusedVariables false
set_option linter.unusedSimpArgs false
theorem rdT_drop (l : List S36) (i : Nat) (h : i < l.length) : l.drop i = rd_T36 l (i : Int) :: l.drop (i + 1) := by
  rw [List.drop_eq_getElem_cons h]
  congr 1
  simp [rd_T36, List.getD, List.getElem?_eq_getElem h]
theorem rdT_mem (l : List S36) (i : Nat) (h : i < l.length) : rd_T36 l (i : Int) ∈ l := by
  have : rd_T36 l (i : Int) = l[i] := by simp [rd_T36, List.getD, List.getElem?_eq_getElem h]
  rw [this]; exact List.getElem_mem h
theorem mulb {x y X Y : Int} (hx : 0 ≤ x) (hX : x ≤ X) (hy : 0 ≤ y) (hY : y ≤ Y) : 0 ≤ x * y ∧ x * y ≤ X * Y :=
  ⟨Int.mul_nonneg hx hy, Int.mul_le_mul hX hY hy (by omega)⟩
def wv (p t : Int) (x : S36) : Int := Int.tdiv p (x.f1 * t)
theorem Good.b {p t : Int} {l : List S36} {n d : Int} (hp : 0 < p) (hp2 : p ≤ 160000) (hl : l.length ≤ 4) (hw : ∀ x ∈ l, okL x ∧ 0 < wv p t x ∧ wv p t x ≤ p) (g : Good (wv p t) p l n d) : 0 ≤ n ∧ n ≤ 6560000 ∧ 0 < d ∧ d ≤ 640000 := by
  obtain ⟨h0, h1, h2⟩ := g
  have a1 : sumL (fun x => if x.f0 * d < n then x.f0 * wv p t x else 0) l ≤ sumL (fun _ => 1600000) l := sumL_le fun x hx => by
    obtain ⟨h3, h4, h5⟩ := hw x hx
    unfold okL at h3
    have := mulb (x := x.f0) (y := wv p t x) (X := 10) (Y := 160000) (by omega) (by omega) (by omega) (by omega)
    split <;> omega
  have a0 : 0 ≤ sumL (fun x => if x.f0 * d < n then x.f0 * wv p t x else 0) l := sumL_pos fun x hx => by
    obtain ⟨h3, h4, h5⟩ := hw x hx
    unfold okL at h3
    have := mulb (x := x.f0) (y := wv p t x) (X := 10) (Y := 160000) (by omega) (by omega) (by omega) (by omega)
    split <;> omega
  have a2 : sumL (fun x => if x.f0 * d < n then wv p t x else 0) l ≤ sumL (fun _ => 160000) l := sumL_le fun x hx => by
    obtain ⟨h3, h4, h5⟩ := hw x hx
    split <;> omega
  rw [sumL_const] at a1 a2
  omega
end Go.Proofs.Ytjgbdicbdlollaa.B
namespace Go.Proofs.Ytjgbdicbdlollaa.B
open Go.RowKit Go.Sort Go.Proofs.YtjgbdicbdlollaaW.PrintWords Go.Proofs.YtjgbdicbdlollaaW.PrintLast Go.Proofs.YtjgbdicbdlollaaW.PrintMore
set_option linter.unusedVariables false
set_option linter.unusedSimpArgs false
/-- A delay's sum. -/
def delS (l : List S36) (X : List Int) (D : Int) : Nat → Nat → Int → Int
  | 0, _, s => s
  | m + 1, i, s => delS l X D m (i + 1) (s + rd X (i : Int) * ((rd_T36 l (i : Int)).f0 * D + (rd_T36 l (i : Int)).f1 * rd X (i : Int)))
theorem del_term {l : List S36} {X : List Int} {D : Int} (hX : X.length = l.length) (hv : ∀ x ∈ l, okL x) (h0 : 0 < D) (h1 : D ≤ 101606400) (hy : ∀ y ∈ X, 0 ≤ y ∧ y ≤ D) (i : Nat) (hi : i < l.length) :
    let a := (rd_T36 l (i : Int)).f0 * D
    let b := (rd_T36 l (i : Int)).f1 * rd X (i : Int)
    (0 ≤ a ∧ a ≤ 1016064000) ∧ (0 ≤ b ∧ b ≤ 1016064000) ∧ 0 ≤ rd X (i : Int) * (a + b) ∧ rd X (i : Int) * (a + b) ≤ 206477210419200000 := by
  intro a b
  have hx := hv _ (rdT_mem l i hi)
  have hn := hy _ (rd_mem2 X i (by omega))
  unfold okL at hx
  have m1 := mulb (x := (rd_T36 l (i : Int)).f0) (y := D) (X := 10) (Y := 101606400) (by omega) (by omega) (by omega) h1
  have m2 := mulb (x := (rd_T36 l (i : Int)).f1) (y := rd X (i : Int)) (X := 10) (Y := 101606400) (by omega) (by omega) (by omega) (by omega)
  have m3 := mulb (x := rd X (i : Int)) (y := a + b) (X := 101606400) (Y := 2032128000) (by omega) (by omega) (by omega) (by omega)
  refine ⟨⟨by omega, by omega⟩, ⟨by omega, by omega⟩, by omega, by omega⟩
theorem delS_ev {l : List S36} {X : List Int} {D : Int} (hl : l.length ≤ 4) (hX : X.length = l.length) (hv : ∀ x ∈ l, okL x) (h0 : 0 < D) (h1 : D ≤ 101606400) (hy : ∀ y ∈ X, 0 ≤ y ∧ y ≤ D) : ∀ (m i : Nat) (s : Int), i + m = l.length → 0 ≤ s → s ≤ 206477210419200000 * i →
    (delL l X D m i s = some (delS l X D m i s) ∧ 0 ≤ delS l X D m i s ∧ delS l X D m i s ≤ 206477210419200000 * 4) ∧ Ev (fun k => trishawref02_delay.l0 k l s (i : Int) X D) (ratR (delS l X D m i s) (D * D))
  | 0, i, s, h, s0, s1 => by
    have hDD := mulb (x := D) (y := D) (X := 101606400) (Y := 101606400) (by omega) h1 (by omega) h1
    have hD2 : 0 < D * D := Int.mul_pos h0 h0
    refine ⟨⟨rfl, s0, by simp only [delS]; omega⟩, ?_⟩
    simp only [delS]
    refine Ev.step (f := fun k => (trishawref01_Ratio.f k s (D * D)).bind fun bt => some (bt.1, bt.2)) (fun k => ?_) (Ev.bind (ratio_ev (by unfold sm; omega) (by unfold sm; omega) hD2) (Ev.now _))
    simp only [trishawref02_delay.l0]
    rw [if_neg (by omega), wsm (x := D * D) (by unfold sm; omega)]
  | m + 1, i, s, h, s0, s1 => by
    have hi : i < l.length := by omega
    have hT := del_term hX hv h0 h1 hy i hi
    simp only at hT
    obtain ⟨⟨a0, a1⟩, ⟨b0, b1⟩, c0, c1⟩ := hT
    have ih := delS_ev hl hX hv h0 h1 hy m (i + 1) (s + rd X (i : Int) * ((rd_T36 l (i : Int)).f0 * D + (rd_T36 l (i : Int)).f1 * rd X (i : Int))) (by omega) (by omega) (by omega)
    have w1 : wrap64 ((rd_T36 l (i : Int)).f0 * D) = (rd_T36 l (i : Int)).f0 * D := wsm (by unfold sm; omega)
    have w2 : wrap64 ((rd_T36 l (i : Int)).f1 * rd X (i : Int)) = (rd_T36 l (i : Int)).f1 * rd X (i : Int) := wsm (by unfold sm; omega)
    have w3 : wrap64 ((rd_T36 l (i : Int)).f0 * D + (rd_T36 l (i : Int)).f1 * rd X (i : Int)) = (rd_T36 l (i : Int)).f0 * D + (rd_T36 l (i : Int)).f1 * rd X (i : Int) := wsm (by unfold sm; omega)
    have w4 : wrap64 (rd X (i : Int) * ((rd_T36 l (i : Int)).f0 * D + (rd_T36 l (i : Int)).f1 * rd X (i : Int))) = rd X (i : Int) * ((rd_T36 l (i : Int)).f0 * D + (rd_T36 l (i : Int)).f1 * rd X (i : Int)) := wsm (by unfold sm; omega)
    have w5 : wrap64 (s + rd X (i : Int) * ((rd_T36 l (i : Int)).f0 * D + (rd_T36 l (i : Int)).f1 * rd X (i : Int))) = s + rd X (i : Int) * ((rd_T36 l (i : Int)).f0 * D + (rd_T36 l (i : Int)).f1 * rd X (i : Int)) := wsm (by unfold sm; omega)
    refine ⟨⟨?_, ih.1.2⟩, ?_⟩
    · simp only [delL, delS, laneCost]
      rw [if_pos (by omega), w1, w2, w3, w4, w5]
      exact ih.1.1
    · refine Ev.step (fun k => ?_) ih.2
      simp only [trishawref02_delay.l0]
      rw [if_pos (by omega), if_pos (by omega), if_pos (by omega), wrapN i (by omega), w1, w2, w3, w4, w5]
theorem delay_ev {l : List S36} {X : List Int} {D : Int} (hl : l.length ≤ 4) (hX : X.length = l.length) (hv : ∀ x ∈ l, okL x) (h0 : 0 < D) (h1 : D ≤ 101606400) (hy : ∀ y ∈ X, 0 ≤ y ∧ y ≤ D) :
    Ev (fun k => jam_delay.f k l X D) (ratR (delS l X D l.length 0 0) (D * D)) ∧ Ev (fun k => trishawref02_delay.f k l X D) (ratR (delS l X D l.length 0 0) (D * D)) := by
  have hDD := mulb (x := D) (y := D) (X := 101606400) (Y := 101606400) (by omega) h1 (by omega) h1
  have hD2 : 0 < D * D := Int.mul_pos h0 h0
  obtain ⟨⟨e1, e2, e3⟩, e4⟩ := delS_ev hl hX hv h0 h1 hy l.length 0 0 (by omega) (by omega) (by omega)
  refine ⟨?_, e4⟩
  refine Ev.congr (f := fun k => ratio_Of.f k (delS l X D l.length 0 0) (D * D)) (fun k => ?_) (of_ev (by unfold sm; omega) (by unfold sm; omega) hD2)
  unfold jam_delay.f
  rw [if_pos (by omega), e1, wsm (x := D * D) (by unfold sm; omega)]
  rfl
theorem okL_iff (x : S36) : okL x ↔ badLane x = false := by
  unfold okL badLane
  simp only [Bool.or_eq_false_iff, decide_eq_false_iff_not]
  omega
/-- The judgement on lanes. -/
def laneE (l : List S36) : Int := if 4 < l.length then 3 else if l = [] ∨ l.any badLane = true then 2 else 0
theorem stream_laneE (l : List S36) : jam_stream.f l = some (laneE l) := rfl
theorem lanes_l0 (l : List S36) (hl : l.length ≤ 4) : ∀ (m i : Nat), i + m = l.length → Ev (fun k => trishawref02_Lanes.l0 k l (i : Int)) (if (l.drop i).any badLane = true then 2 else 0)
  | 0, i, h => by
    rw [List.drop_of_length_le (by omega)]
    refine Ev.step (f := fun _ => some 0) (fun k => ?_) (Ev.now _)
    simp only [trishawref02_Lanes.l0]
    rw [if_neg (by omega)]
  | m + 1, i, h => by
    have hi : i < l.length := by omega
    have ih := lanes_l0 l hl m (i + 1) (by omega)
    rw [rdT_drop l i hi, List.any_cons]
    generalize hx : rd_T36 l (i : Int) = x at *
    cases hb : badLane x with
    | true =>
      simp only [Bool.true_or, if_true]
      have hj : Ev (fun k => trishawref02_Lanes.j1 k l (i : Int) true) 2 := Ev.step (f := fun _ => some 2) (fun k => by simp [trishawref02_Lanes.j1]) (Ev.now _)
      refine Ev.step (fun k => ?_) hj
      simp only [trishawref02_Lanes.l0]
      rw [if_pos (by omega), if_pos (by omega), hx]
      unfold badLane at hb
      simp only [Bool.or_eq_true, decide_eq_true_eq] at hb
      by_cases h1 : x.f0 < 0
      · rw [if_pos h1]
      · rw [if_neg h1]
        by_cases h2 : x.f0 > 10
        · rw [if_pos h2]
        · rw [if_neg h2]
          by_cases h3 : x.f1 < 1
          · rw [if_pos h3]
          · rw [if_neg h3, decide_eq_true (show x.f1 > 10 by omega)]
    | false =>
      simp only [Bool.false_or]
      have hx2 := (okL_iff x).2 hb
      unfold okL at hx2
      have hj : Ev (fun k => trishawref02_Lanes.j1 k l (i : Int) false) _ := Ev.step (f := fun k => trishawref02_Lanes.l0 k l ((i + 1 : Nat) : Int)) (fun k => by simp only [trishawref02_Lanes.j1]; rw [if_neg (by simp), wrapN i (by omega)]) ih
      refine Ev.step (fun k => ?_) hj
      simp only [trishawref02_Lanes.l0]
      rw [if_pos (by omega), if_pos (by omega), hx, if_neg (by omega), if_neg (by omega), if_neg (by omega), decide_eq_false (by omega)]
theorem lanes_ev (l : List S36) (hl : l.length < 1000000) : Ev (fun k => trishawref02_Lanes.f k l) (laneE l) := by
  unfold trishawref02_Lanes.f laneE
  by_cases h4 : 4 < l.length
  · rw [if_pos h4]; refine Ev.congr (f := fun _ => some 3) (fun k => ?_) (Ev.now _); rw [if_pos (by omega)]
  · rw [if_neg h4]
    by_cases h0 : l = []
    · subst h0; rw [if_pos (Or.inl rfl)]; refine Ev.congr (f := fun _ => some 2) (fun k => ?_) (Ev.now _); simp
    · have h1 : l.length ≠ 0 := by simpa using h0
      have hh := lanes_l0 l (by omega) l.length 0 (by omega)
      have e : (if l = [] ∨ l.any badLane = true then (2 : Int) else 0) = (if (l.drop 0).any badLane = true then 2 else 0) := by simp [h0]
      rw [e]
      refine Ev.congr (fun k => ?_) hh
      rw [if_neg (by omega), if_neg (by omega)]
      rfl
theorem laneE_ok {l : List S36} (h : laneE l = 0) : l ≠ [] ∧ l.length ≤ 4 ∧ ∀ x ∈ l, okL x := by
  unfold laneE at h
  split at h
  · omega
  · split at h
    · omega
    · rename_i h1 h2
      refine ⟨fun e => h2 (Or.inl e), by omega, fun x hx => (okL_iff x).2 ?_⟩
      cases hb : badLane x with
      | false => rfl
      | true => exact absurd (Or.inr (List.any_eq_true.2 ⟨x, hx, hb⟩)) h2
theorem same_l0 (x : List Int) (hx : x.length < 1000000) : ∀ (m i : Nat), i + m = x.length → Ev (fun k => trishawlaw02_same.l0 k x x (i : Int)) true
  | 0, i, h => by
    refine Ev.step (f := fun _ => some true) (fun k => ?_) (Ev.now _)
    simp only [trishawlaw02_same.l0]
    rw [if_neg (by omega)]
  | m + 1, i, h => by
    refine Ev.step (fun k => ?_) (same_l0 x hx m (i + 1) (by omega))
    simp only [trishawlaw02_same.l0]
    rw [if_pos (by omega), if_pos (by omega), if_pos (by omega), if_pos True.intro, wrapN i (by omega)]
theorem same_ev (x : List Int) (hx : x.length < 1000000) : Ev (fun k => trishawlaw02_same.f k x x) true := by
  refine Ev.congr (fun k => ?_) (same_l0 x hx x.length 0 (by omega))
  unfold trishawlaw02_same.f
  rw [if_pos rfl]; rfl
end Go.Proofs.Ytjgbdicbdlollaa.B
namespace Go.Proofs.Ytjgbdicbdlollaa.B
open Go.RowKit Go.Sort Go.Proofs.YtjgbdicbdlollaaW.PrintWords Go.Proofs.YtjgbdicbdlollaaW.PrintLast Go.Proofs.YtjgbdicbdlollaaW.PrintMore
theorem alive_ev : Ev (fun k => trishawlaw02_alive.f k) true := ⟨60, fun k hk => alive_from k hk⟩
theorem alive_ev2 : Ev (fun k => (trishawlaw02_alive.f k).bind fun t => some t) true := Ev.bind alive_ev (Ev.now true)
end Go.Proofs.Ytjgbdicbdlollaa.B
namespace Go.Proofs.Ytjgbdicbdlollaa.B
open Go.RowKit Go.Sort Go.Proofs.YtjgbdicbdlollaaW.PrintWords Go.Proofs.YtjgbdicbdlollaaW.PrintLast Go.Proofs.YtjgbdicbdlollaaW.PrintMore
set_option linter.unusedVariables false
set_option linter.unusedSimpArgs false
set_option linter.unusedSectionVars false
theorem parts_loop (X : List Int) (D : Int) (hX : X.length < 1000000) (h0 : 0 < D) (h1 : D ≤ 10000000) : ∀ (m i : Nat) (g : Int), i + m = X.length → 0 < g → g ≤ 10000000 →
    ∃ b, Ev (fun k => ratio_AreParts.l0 k 0 1 g X (X.length : Int) (i : Int) X D) b ∧ Ev (fun k => trishawref02_IsParts.l0 k (X.length : Int) 0 1 g (i : Int) X D) b ∧ (b = true → ∀ q : Nat, i ≤ q → q < X.length → 0 ≤ rd X (q : Int) ∧ rd X (q : Int) ≤ D)
  | 0, i, g, h, g0, g1 => by
    refine ⟨g == 1, Ev.step (f := fun _ => some (g == 1)) (fun k => ?_) (Ev.now _), Ev.step (f := fun _ => some (g == 1)) (fun k => ?_) (Ev.now _), fun _ q h1 h2 => by omega⟩
    · simp only [ratio_AreParts.l0]
      rw [if_neg (by omega), absmx (by unfold sm; omega), show ((g.natAbs : Nat) : Int) = g by omega]
    · simp only [trishawref02_IsParts.l0]
      rw [if_neg (by omega)]
  | m + 1, i, g, h, g0, g1 => by
    have hi : i < X.length := by omega
    have w0 : wrap64 (0 * D) = 0 := by rw [Int.zero_mul]; exact wsm (by unfold sm; omega)
    have w1 : wrap64 (1 * D) = D := by rw [Int.one_mul]; exact wsm (by unfold sm; omega)
    by_cases hlo : rd X (i : Int) < 0
    · refine ⟨false, Ev.step (f := fun _ => some false) (fun k => ?_) (Ev.now _), Ev.step (f := fun _ => some false) (fun k => ?_) (Ev.now _), fun h => absurd h (by simp)⟩
      · simp only [ratio_AreParts.l0]
        rw [if_pos (by omega), if_pos (by omega), if_pos (by omega), w0, if_pos hlo]
      · simp only [trishawref02_IsParts.l0]
        rw [if_pos (by omega), if_pos (by omega), if_pos (by omega), w0, if_pos hlo]
    · by_cases hhi : rd X (i : Int) > D
      · refine ⟨false, Ev.step (f := fun _ => some false) (fun k => ?_) (Ev.now _), Ev.step (f := fun _ => some false) (fun k => ?_) (Ev.now _), fun h => absurd h (by simp)⟩
        · simp only [ratio_AreParts.l0]
          rw [if_pos (by omega), if_pos (by omega), if_pos (by omega), w0, w1, if_neg hlo, if_pos hhi]
        · simp only [trishawref02_IsParts.l0]
          rw [if_pos (by omega), if_pos (by omega), if_pos (by omega), w0, w1, if_neg hlo, if_pos hhi]
      · have hsy : sm (rd X (i : Int)) := by unfold sm; omega
        have hsg : sm g := by unfold sm; omega
        have hg := sm_gcd (b := rd X (i : Int)) hsg g0
        obtain ⟨b, e1, e2, e3⟩ := parts_loop X D hX h0 h1 m (i + 1) _ (by omega) hg.2.1 (by omega)
        have hgc := gcd_ev _ g ((rd X (i : Int)).natAbs : Int) (Nat.le_refl _) hsg (by unfold sm at *; omega)
        rw [gcd_abs] at hgc
        refine ⟨b, Ev.step (fun k => ?_) (Ev.bind (f := fun k t => ratio_AreParts.l0 k 0 1 t X (X.length : Int) ((i + 1 : Nat) : Int) X D) (divisor_ev _ g (rd X (i : Int)) (Nat.le_refl _) hsg hsy) e1), Ev.step (fun k => ?_) (Ev.bind (f := fun k t => trishawref02_IsParts.l0 k (X.length : Int) 0 1 t ((i + 1 : Nat) : Int) X D) hgc e2), fun hb q h1 h2 => ?_⟩
        · simp only [ratio_AreParts.l0]
          rw [if_pos (by omega), if_pos (by omega), if_pos (by omega), w0, w1, if_neg hlo, if_neg hhi, wrapN i (by omega)]
        · simp only [trishawref02_IsParts.l0]
          rw [if_pos (by omega), if_pos (by omega), if_pos (by omega), w0, w1, if_neg hlo, if_neg hhi, wrapN i (by omega), absmx hsy]
        · by_cases he : q = i
          · subst he; omega
          · exact e3 hb q (by omega) h2
theorem sum_loop (X : List Int) (D : Int) (hX : X.length < 1000000) : ∀ (m i : Nat) (s : Int), i + m = X.length → ∃ v, Ev (fun k => jam_areParts.l0 k s X (X.length : Int) (i : Int) X D) (v == D) ∧ Ev (fun k => trishawref02_Sum.l0 k s (i : Int) X D) v
  | 0, i, s, h => by
    refine ⟨s, Ev.step (f := fun _ => some (s == D)) (fun k => ?_) (Ev.now _), Ev.step (f := fun _ => some s) (fun k => ?_) (Ev.now _)⟩
    · simp only [jam_areParts.l0]; rw [if_neg (by omega)]
    · simp only [trishawref02_Sum.l0]; rw [if_neg (by omega)]
  | m + 1, i, s, h => by
    obtain ⟨v, e1, e2⟩ := sum_loop X D hX m (i + 1) (wrap64 (s + rd X (i : Int))) (by omega)
    refine ⟨v, Ev.step (fun k => ?_) e1, Ev.step (fun k => ?_) e2⟩
    · simp only [jam_areParts.l0]
      rw [if_pos (by omega), if_pos (by omega), if_pos (by omega), wrapN i (by omega)]
    · simp only [trishawref02_Sum.l0]
      rw [if_pos (by omega), if_pos (by omega), wrapN i (by omega)]
theorem areParts_ev (l : List S36) (X : List Int) (D : Int) (hX : X.length < 1000000) (hl : l.length ≤ 4) : ∃ b, Ev (fun k => jam_areParts.f k l X D) b ∧ Ev (fun k => trishawref02_Stream.f k X D (l.length : Int)) b ∧ (b = true → X.length = l.length ∧ 0 < D ∧ D ≤ 10000000 ∧ ∀ y ∈ X, 0 ≤ y ∧ y ≤ D) := by
  by_cases hx : X.length = l.length ∧ 0 < D ∧ D ≤ 10000000
  · obtain ⟨hxl, d0, d1⟩ := hx
    obtain ⟨b, e1, e2, e3⟩ := parts_loop X D hX d0 d1 X.length 0 D (by omega) d0 d1
    obtain ⟨v, f1, f2⟩ := sum_loop X D hX X.length 0 0 (by omega)
    have a1 : Ev (fun k => ratio_AreParts.f k X D (l.length : Int) 0 1) b := by
      have hj : Ev (fun k => ratio_AreParts.j0 k 0 1 false X D) b := Ev.step (fun k => by simp only [ratio_AreParts.j0]; rw [if_neg (by simp)]; rfl) e1
      refine Ev.congr (fun k => ?_) hj
      unfold ratio_AreParts.f
      rw [if_neg (by omega), if_neg (by omega), show ((X.length : Int) != (l.length : Int)) = false by simp [hxl]]
    have a2 : Ev (fun k => trishawref02_IsParts.f k X D (l.length : Int) 0 1) b := by
      have hj : Ev (fun k => trishawref02_IsParts.j0 k (l.length : Int) 0 1 false X D) b := Ev.step (fun k => by simp only [trishawref02_IsParts.j0]; rw [if_neg (by simp), ← hxl]; rfl) e2
      refine Ev.congr (fun k => ?_) hj
      unfold trishawref02_IsParts.f
      rw [if_pos (by omega), if_neg (by omega), decide_eq_false (by omega)]
    cases hb : b with
    | false =>
      rw [hb] at a1 a2
      refine ⟨false, ?_, ?_, fun h => absurd h (by simp)⟩
      · unfold jam_areParts.f
        exact Ev.bind a1 (Ev.congr (fun k => if_neg (by simp)) (Ev.now _))
      · unfold trishawref02_Stream.f
        exact Ev.bind a2 (Ev.congr (fun k => if_neg (by simp)) (Ev.now _))
    | true =>
      rw [hb] at a1 a2
      refine ⟨v == D, ?_, ?_, fun _ => ⟨hxl, d0, d1, fun y hy => ?_⟩⟩
      · unfold jam_areParts.f
        exact Ev.bind a1 (Ev.congr (fun k => if_pos rfl) f1)
      · unfold trishawref02_Stream.f
        refine Ev.bind a2 (Ev.congr (fun k => if_pos rfl) ?_)
        exact Ev.bind (f := fun _ t => some (t == D)) f2 (Ev.now _)
      · obtain ⟨q, hq, rfl⟩ := List.mem_iff_getElem.1 hy
        have e : rd X (q : Int) = X[q] := by simp [rd, List.getD, List.getElem?_eq_getElem hq]
        rw [← e]
        exact e3 hb q (Nat.zero_le _) hq
  · refine ⟨false, ?_, ?_, fun h => absurd h (by simp)⟩
    · have a1 : Ev (fun k => ratio_AreParts.f k X D (l.length : Int) 0 1) false := by
        have hj : Ev (fun k => ratio_AreParts.j0 k 0 1 true X D) false := Ev.step (f := fun _ => some false) (fun k => by simp [ratio_AreParts.j0]) (Ev.now _)
        refine Ev.congr (fun k => ?_) hj
        unfold ratio_AreParts.f
        by_cases h1 : D < 1
        · rw [if_pos h1]
        · rw [if_neg h1]
          by_cases h2 : D > 10000000
          · rw [if_pos h2]
          · rw [if_neg h2, show ((X.length : Int) != (l.length : Int)) = true by rw [bne_iff_ne]; intro e; exact hx ⟨by omega, by omega, by omega⟩]
      unfold jam_areParts.f
      exact Ev.bind a1 (Ev.congr (fun k => if_neg (by simp)) (Ev.now _))
    · have a2 : Ev (fun k => trishawref02_IsParts.f k X D (l.length : Int) 0 1) false := by
        have hj : Ev (fun k => trishawref02_IsParts.j0 k (l.length : Int) 0 1 true X D) false := Ev.step (f := fun _ => some false) (fun k => by simp [trishawref02_IsParts.j0]) (Ev.now _)
        refine Ev.congr (fun k => ?_) hj
        unfold trishawref02_IsParts.f
        by_cases h0 : (X.length : Int) = (l.length : Int)
        · rw [if_pos h0]
          by_cases h1 : D < 1
          · rw [if_pos h1]
          · rw [if_neg h1, decide_eq_true (show D > 10000000 by
              by_cases h3 : D > 10000000
              · exact h3
              · exact absurd ⟨by omega, by omega, by omega⟩ hx)]
        · rw [if_neg h0]
      unfold trishawref02_Stream.f
      exact Ev.bind a2 (Ev.congr (fun k => if_neg (by simp)) (Ev.now _))
theorem delays_ev (l : List S36) (X : List Int) (D : Int) (hX : X.length < 1000000) (hl20 : l.length ≤ 20) : ∃ r, Ev (fun k => jam_Delay.f k l X D) r ∧ Ev (fun k => trishawref02_Delay.f k l X D) r := by
  have hL := lanes_ev l (by omega)
  by_cases h0 : laneE l = 0
  · obtain ⟨hne, hl, hv⟩ := laneE_ok h0
    obtain ⟨b, e1, e2, e3⟩ := areParts_ev l X D hX hl
    cases hb : b with
    | false =>
      rw [hb] at e1 e2
      refine ⟨(0, 0, 2), ?_, ?_⟩
      · unfold jam_Delay.f
        refine Ev.congr (fun k => by rw [stream_laneE, Option.bind_some, h0, if_pos rfl]) (Ev.bind e1 ?_)
        refine Ev.step (f := fun _ => some (0, 0, 2)) (fun k => ?_) (Ev.now _)
        simp only [jam_Delay.j0]
        rw [if_pos (by simp), if_neg (by omega)]
      · unfold trishawref02_Delay.f
        exact Ev.bind hL (Ev.congr (fun k => by rw [h0, if_pos rfl]) (Ev.bind e2 (Ev.congr (fun k => if_neg Bool.false_ne_true) (Ev.now _))))
    | true =>
      obtain ⟨x1, x2, x3, x4⟩ := e3 hb
      rw [hb] at e1 e2
      obtain ⟨d1, d2⟩ := delay_ev hl x1 hv x2 (by omega) x4
      refine ⟨((ratR (delS l X D l.length 0 0) (D * D)).1, (ratR (delS l X D l.length 0 0) (D * D)).2, 0), ?_, ?_⟩
      rotate_left
      · unfold trishawref02_Delay.f
        exact Ev.bind hL (Ev.congr (fun k => by rw [h0, if_pos rfl]) (Ev.bind e2 (Ev.congr (fun k => if_pos rfl) (Ev.bind (f := fun _ (c : Int × Int) => some (c.1, c.2, (0 : Int))) d2 (Ev.now _)))))
      · unfold jam_Delay.f
        refine Ev.congr (fun k => by rw [stream_laneE, Option.bind_some, h0, if_pos rfl]) (Ev.bind e1 ?_)
        refine Ev.step (fun k => ?_) (Ev.bind (f := fun _ (c : Int × Int) => some (c.1, c.2, (0 : Int))) d1 (Ev.now _))
        simp only [jam_Delay.j0]
        rw [if_neg (by simp), if_pos trivial]
  · refine ⟨(0, 0, laneE l), ?_, ?_⟩
    · unfold jam_Delay.f
      refine Ev.congr (f := fun k => jam_Delay.j0 k l (laneE l) false X D) (fun k => by rw [stream_laneE, Option.bind_some, if_neg h0]) ?_
      refine Ev.step (f := fun _ => some (0, 0, laneE l)) (fun k => ?_) (Ev.now _)
      simp only [jam_Delay.j0]
      rw [if_neg (by simp), if_neg h0]
    · unfold trishawref02_Delay.f
      exact Ev.bind hL (Ev.congr (fun k => by rw [if_neg h0]) (Ev.now _))
theorem leastL_lt (l : List S36) (X : List Int) (D a : Int) : ∀ m : Nat, leastL l X D m < a ↔ (costAt l X D 0 < a ∨ ∃ q : Nat, q < m ∧ costAt l X D q < a)
  | 0 => by simp [leastL]
  | m + 1 => by
    have ih := leastL_lt l X D a m
    have e : leastL l X D (m + 1) < a ↔ leastL l X D m < a ∨ costAt l X D m < a := by
      simp only [leastL, mn]
      split <;> omega
    rw [e, ih]
    constructor
    · rintro ((h | ⟨q, h1, h2⟩) | h)
      · exact Or.inl h
      · exact Or.inr ⟨q, by omega, h2⟩
      · exact Or.inr ⟨m, by omega, h⟩
    · rintro (h | ⟨q, h1, h2⟩)
      · exact Or.inl (Or.inl h)
      · by_cases he : q = m
        · subst he; exact Or.inr h2
        · exact Or.inl (Or.inr ⟨q, by omega, h2⟩)
theorem calmL_iff (l : List S36) (X : List Int) (D L : Int) : ∀ (m i : Nat), calmL l X D L m i = true ↔ ∀ q : Nat, i ≤ q → q < i + m → ¬ (0 < rd X (q : Int) ∧ L < costAt l X D q)
  | 0, i => by simp [calmL]; intro q h1 h2; omega
  | m + 1, i => by
    have ih := calmL_iff l X D L m (i + 1)
    simp only [calmL]
    by_cases h : 0 < rd X (i : Int) ∧ L < costAt l X D i
    · rw [if_pos h]
      exact ⟨fun e => absurd e (by simp), fun e => absurd h (e i (Nat.le_refl _) (by omega))⟩
    · rw [if_neg h, ih]
      refine ⟨fun e q h1 h2 => ?_, fun e q h1 h2 => e q (by omega) (by omega)⟩
      by_cases he : q = i
      · subst he; exact h
      · exact e q (by omega) (by omega)
section
variable (l : List S36) (X : List Int) (D : Int) (hl : l.length ≤ 4) (hX : X.length = l.length)
include hl hX
theorem rbal_l1 (i : Nat) (hi : i < l.length) (b2 : Bool) (h2 : Ev (fun k => trishawref02_InBalance.l0 k l ((i + 1 : Nat) : Int) X D) (b2, 0)) : ∀ (m j : Nat), j + m = l.length →
    ∃ b, Ev (fun k => trishawref02_InBalance.l1 k l (i : Int) (j : Int) X D) (b, 0) ∧ (b = true ↔ (∀ q : Nat, j ≤ q → q < l.length → ¬ (0 < rd X (i : Int) ∧ costAt l X D q < costAt l X D i)) ∧ b2 = true)
  | 0, j, h => by
    refine ⟨b2, Ev.step (fun k => ?_) h2, ⟨fun h => ⟨fun q h1 h2 => by omega, h⟩, fun h => h.2⟩⟩
    simp only [trishawref02_InBalance.l1]
    rw [if_neg (by omega), wrapN i (by omega)]
  | m + 1, j, h => by
    obtain ⟨b, e1, e2⟩ := rbal_l1 i hi b2 h2 m (j + 1) (by omega)
    by_cases hy : 0 < rd X (i : Int)
    · by_cases hc : costAt l X D j < costAt l X D i
      · refine ⟨false, Ev.step (f := fun _ => some (false, 0)) (fun k => ?_) (Ev.now _), ⟨fun h => absurd h (by simp), fun h => absurd ⟨hy, hc⟩ (h.1 j (Nat.le_refl _) (by omega))⟩⟩
        simp only [trishawref02_InBalance.l1]
        rw [if_pos (by omega), if_pos (by omega), if_pos (by omega), if_pos hy, if_pos (by omega), if_pos (by omega), if_pos (by omega)]
        exact if_pos hc
      · refine ⟨b, Ev.step (fun k => ?_) e1, e2.trans ⟨fun h => ⟨fun q h1 h2 => ?_, h.2⟩, fun h => ⟨fun q h1 h2 => h.1 q (by omega) h2, h.2⟩⟩⟩
        · simp only [trishawref02_InBalance.l1]
          rw [if_pos (by omega), if_pos (by omega), if_pos (by omega), if_pos hy, if_pos (by omega), if_pos (by omega), if_pos (by omega), wrapN j (by omega)]
          exact if_neg hc
        · by_cases he : q = j
          · subst he; exact fun e => hc e.2
          · exact h.1 q (by omega) h2
    · refine ⟨b, Ev.step (fun k => ?_) e1, e2.trans ⟨fun h => ⟨fun q h1 h2 e => hy e.1, h.2⟩, fun h => ⟨fun q h1 h2 => h.1 q (by omega) h2, h.2⟩⟩⟩
      simp only [trishawref02_InBalance.l1]
      rw [if_pos (by omega), if_pos (by omega), if_pos (by omega), if_neg hy, wrapN j (by omega)]
theorem rbal_l0 : ∀ (m i : Nat), i + m = l.length → ∃ b, Ev (fun k => trishawref02_InBalance.l0 k l (i : Int) X D) (b, 0) ∧ (b = true ↔ ∀ p : Nat, i ≤ p → p < l.length → ∀ q : Nat, q < l.length → ¬ (0 < rd X (p : Int) ∧ costAt l X D q < costAt l X D p))
  | 0, i, h => by
    refine ⟨true, Ev.step (f := fun _ => some (true, 0)) (fun k => ?_) (Ev.now _), ⟨fun _ p h1 h2 => by omega, fun _ => rfl⟩⟩
    simp only [trishawref02_InBalance.l0]
    rw [if_neg (by omega)]
  | m + 1, i, h => by
    obtain ⟨b2, f1, f2⟩ := rbal_l0 m (i + 1) (by omega)
    obtain ⟨b, e1, e2⟩ := rbal_l1 l X D hl hX i (by omega) b2 f1 l.length 0 (by omega)
    refine ⟨b, Ev.step (fun k => ?_) e1, e2.trans ⟨fun h p h1 h2 q h3 => ?_, fun h => ⟨fun q h1 h2 => h i (Nat.le_refl _) (by omega) q h2, f2.2 fun p h1 h2 q h3 => h p (by omega) h2 q h3⟩⟩⟩
    · simp only [trishawref02_InBalance.l0]
      rw [if_pos (by omega)]
      rfl
    · by_cases he : p = i
      · subst he; exact h.1 q (Nat.zero_le _) h3
      · exact f2.1 h.2 p (by omega) h2 q h3
end
theorem inbal_ev (l : List S36) (X : List Int) (D : Int) (hX : X.length < 1000000) (hl20 : l.length ≤ 20) : ∃ r, Ev (fun k => jam_InBalance.f k l X D) r ∧ Ev (fun k => trishawref02_InBalance.f k l X D) r := by
  have hL := lanes_ev l (by omega)
  by_cases h0 : laneE l = 0
  · obtain ⟨hne, hl, hv⟩ := laneE_ok h0
    have hlen : 1 ≤ l.length := by cases l with | nil => exact absurd rfl hne | cons => simp
    obtain ⟨b, e1, e2, e3⟩ := areParts_ev l X D hX hl
    cases hb : b with
    | false =>
      rw [hb] at e1 e2
      refine ⟨(false, 0), ?_, ?_⟩
      · unfold jam_InBalance.f
        exact Ev.congr (fun k => by rw [stream_laneE, Option.bind_some, h0, if_pos rfl]) (Ev.bind e1 (Ev.congr (fun k => if_neg Bool.false_ne_true) (Ev.now _)))
      · unfold trishawref02_InBalance.f
        exact Ev.bind hL (Ev.congr (fun k => by rw [h0, if_pos rfl]) (Ev.bind e2 (Ev.congr (fun k => if_neg Bool.false_ne_true) (Ev.now _))))
    | true =>
      obtain ⟨x1, x2, x3, x4⟩ := e3 hb
      rw [hb] at e1 e2
      obtain ⟨b', f1, f2⟩ := rbal_l0 l X D hl x1 l.length 0 (by omega)
      have hc : calmL l X D (leastL l X D l.length) l.length 0 = b' := by
        rw [Bool.eq_iff_iff, f2, calmL_iff]
        constructor
        · intro h p h1 h2 q h3 h4
          exact h p h1 (by omega) ⟨h4.1, (leastL_lt l X D _ _).2 (Or.inr ⟨q, h3, h4.2⟩)⟩
        · intro h p h1 h2 h4
          rcases (leastL_lt l X D _ _).1 h4.2 with h5 | ⟨q, h5, h6⟩
          · exact h p h1 (by omega) 0 (by omega) ⟨h4.1, h5⟩
          · exact h p h1 (by omega) q h5 ⟨h4.1, h6⟩
      refine ⟨(b', 0), ?_, ?_⟩
      · unfold jam_InBalance.f
        refine Ev.congr (fun k => by rw [stream_laneE, Option.bind_some, h0, if_pos rfl]) (Ev.bind e1 (Ev.congr (f := fun _ => some (b', 0)) (fun k => ?_) (Ev.now _)))
        rw [if_pos rfl, if_pos ⟨x1, hlen, by omega⟩, hc]
      · unfold trishawref02_InBalance.f
        exact Ev.bind hL (Ev.congr (fun k => by rw [h0, if_pos rfl]) (Ev.bind e2 (Ev.congr (fun k => if_pos rfl) f1)))
  · refine ⟨(false, laneE l), ?_, ?_⟩
    · unfold jam_InBalance.f
      exact Ev.congr (fun k => by rw [stream_laneE, Option.bind_some, if_neg h0]) (Ev.now _)
    · unfold trishawref02_InBalance.f
      exact Ev.bind hL (Ev.congr (fun k => by rw [if_neg h0]) (Ev.now _))
end Go.Proofs.Ytjgbdicbdlollaa.B
namespace Go.Proofs.Ytjgbdicbdlollaa.B
open Go.RowKit Go.Sort Go.Proofs.YtjgbdicbdlollaaW.PrintWords Go.Proofs.YtjgbdicbdlollaaW.PrintLast Go.Proofs.YtjgbdicbdlollaaW.PrintMore
set_option linter.unusedVariables false
set_option linter.unusedSimpArgs false
theorem jamdelays_ev (l : List S36) (X : List Int) (D : Int) : Ev (fun k => trishawlaw02_JamDelays.f k l X D) true := by
  unfold trishawlaw02_JamDelays.f
  have hj : Ev (fun k => trishawlaw02_JamDelays.j0 k l true X D) true := Ev.step (fun k => by simp only [trishawlaw02_JamDelays.j0]; rw [if_pos trivial]) alive_ev2
  by_cases h20 : (l.length : Int) > 20
  · exact Ev.congr (fun k => if_pos h20) hj
  · refine Ev.congr (fun k => if_neg h20) ?_
    by_cases hx : (X.length : Int) > 20
    · rw [decide_eq_true hx]; exact hj
    · rw [decide_eq_false hx]
      obtain ⟨r, a1, a2⟩ := delays_ev l X D (by omega) (by omega)
      obtain ⟨p, p1, p2⟩ := inbal_ev l X D (by omega) (by omega)
      have hj1 : Ev (fun k => trishawlaw02_JamDelays.j1 k l false X D X D) true := by
        refine Ev.step (fun k => by simp only [trishawlaw02_JamDelays.j1]; rw [if_neg (by simp)]) (Ev.bind p1 (Ev.bind p2 ?_))
        refine Ev.congr (fun k => by rw [if_pos (by simp), if_pos rfl]) (Ev.bind (same_ev X (by omega)) ?_)
        exact Ev.congr (fun k => by rw [if_pos rfl]) alive_ev2
      have hfin : Ev (fun k => (jam_Delay.f k l X D).bind fun bt110 => ((trishawref02_Delay.f k l X D).bind fun bt114 => (if (!(bt110.1 == bt114.1) || (!(bt110.2.1 == bt114.2.1))) = true then (trishawlaw02_JamDelays.j1 k l true X D X D) else (trishawlaw02_JamDelays.j1 k l (bt110.2.2 != bt114.2.2) X D X D)))) true := by
        refine Ev.bind a1 (Ev.bind a2 (Ev.congr (fun k => ?_) hj1))
        rw [if_neg (by simp)]
        simp
      refine Ev.step (fun k => ?_) hfin
      simp only [trishawlaw02_JamDelays.j0, Option.bind_some, List.nil_append, List.length_nil]
      rw [if_neg (by simp), if_pos (by omega)]
end Go.Proofs.Ytjgbdicbdlollaa.B
namespace Go.Proofs.Ytjgbdicbdlollaa.Pure
open Go.RowKit Go.Proofs.Ytjgbdicbdlollaa.B Go.Proofs.YtjgbdicbdlollaaW.PrintWords Go.Proofs.YtjgbdicbdlollaaW.PrintLast Go.Proofs.YtjgbdicbdlollaaW.PrintMore
theorem JamDelays : trishawlaw02_JamDelays.Pure := fun l0 l1_0 a1_1 _ _ _ => (jamdelays_ev l0 l1_0 a1_1).rounds
end Go.Proofs.Ytjgbdicbdlollaa.Pure
