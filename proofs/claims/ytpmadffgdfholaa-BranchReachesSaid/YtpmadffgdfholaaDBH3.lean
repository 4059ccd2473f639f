/- alone: a set of corners that no free street enters, found by its closures. -/
import Derived.Test.YtpmadffgdfholaaDBC1
import Derived.WalkSpells
import Derived.Laws.EntriesVeiled
namespace Go.Proofs.Ytpmadffgdfholaa.B
open Go.RowKit Go.Proofs.YtpmadffgdfholaaW.PrintWords Go.Proofs.YtpmadffgdfholaaW.PrintLast Go.Proofs.YtpmadffgdfholaaW.PrintMore
set_option linter.unusedVariables false
set_option linter.unusedSimpArgs false

/-- What stands while alone runs. -/
structure AlEnv (w W : World) (g0 g3 g7 : Nat) (n : Int) (A : Option Addr) (c : Nat) (l : List S30) (m : Option Nat) (vf : Value) (o : Int → Option Bool) : Prop where
  hb : Below w.heap.size w W
  hP : W.heap[g3]? = some (.cells #[.pointer (some ⟨g0, 0, none⟩)] 65 (0, 0))
  hQ : W.heap[g0]? = some (.cells #[.int .i64 n, .slice A l.length c, .map m] 70 (0, 0))
  hr : Kd.C k30 W A l.length l
  hc : l.length ≤ c
  h7 : W.heap[g7]? = some (.cells #[vf] 75 (0, 0))
  hF : IsFn Try.prog W vf o

theorem AlEnv.below {w W W2 : World} {g0 g3 g7 : Nat} {n : Int} {A : Option Addr} {c : Nat} {l : List S30} {m : Option Nat} {vf : Value} {o : Int → Option Bool} (h : AlEnv w W g0 g3 g7 n A c l m vf o) (hb : Below W.heap.size W W2) : AlEnv w W2 g0 g3 g7 n A c l m vf o :=
  ⟨below_step h.hb hb, (hb.block _ (blk_lt h.hP)).trans h.hP, (hb.block _ (blk_lt h.hQ)).trans h.hQ, Kd.C_below h.hr hb, h.hc, (hb.block _ (blk_lt h.h7)).trans h.h7, h.hF.below hb⟩

theorem AlEnv.call {w W : World} {g0 g3 g7 : Nat} {n : Int} {A : Option Addr} {c : Nat} {l : List S30} {m : Option Nat} {vf : Value} {o : Int → Option Bool} (h : AlEnv w W g0 g3 g7 n A c l m vf o) (k : Nat) (d r : Int) (hf : branch_town_alone_2.f k d n l o = some r) :
    Calls Try.prog 80 #[.int .i64 d, .pointer (some ⟨g3, 0, none⟩), .pointer (some ⟨g7, 0, none⟩)] W fun e W' => e = .returned (.int .i64 r) ∧ AlEnv w W' g0 g3 g7 n A c l m vf o :=
  (branch_town_alone_2.calls k d g3 g0 n A c l m g7 vf o r W h.hP h.hQ h.hr h.hc h.h7 h.hF hf).mono fun e W' ⟨he, hb⟩ => ⟨he, h.below hb⟩

theorem IsFn_alone1 {W : World} {g4 g5 : Nat} {A : Option Addr} {c : Nat} {l : List Int} {vo : Value} {o : Int → Option Bool} (h4 : W.heap[g4]? = some (.cells #[.slice A l.length c] 28 (0, 0))) (hr : Kd.C (Kd.int .i64) W A l.length l) (hc : l.length ≤ c) (h5 : W.heap[g5]? = some (.cells #[vo] 75 (0, 0))) (hF : IsFn Try.prog W vo o) :
    IsFn Try.prog W (.func (.func 79) #[] #[.pointer (some ⟨g4, 0, none⟩), .pointer (some ⟨g5, 0, none⟩)]) (fun i => branch_town_alone_1.f i l o) := by
  refine ⟨79, _, Try.f79, rfl, Try.func79, by kernel_rfl, rfl, fun W2 hW i r hf => ?_⟩
  exact (branch_town_alone_1.calls i g4 A c l g5 vo o r W2 ((hW.block _ (blk_lt h4)).trans h4) (Kd.C_below hr hW) hc ((hW.block _ (blk_lt h5)).trans h5) (hF.below hW) hf).mono fun e W' ⟨he, hb⟩ => ⟨he, by first | exact hb | exact hb.below⟩

def hasB (s c : Int) : Bool := Go.bits .and .i64 (shr .i64 s c) 1 == 1
/-- The corners from which c is reached. -/
def gatherB (R : Int → Int) (c : Int) : Nat → Int
  | 0 => 0
  | j + 1 => if hasB (R j) c then Go.bits .or .i64 (gatherB R c j) (shl .i64 1 j) else gatherB R c j
/-- Is each of the set's corners below j reached from c? -/
def closedB (R : Int → Int) (c s : Int) : Nat → Bool
  | 0 => true
  | j + 1 => closedB R c s j && !(hasB s j && (Go.bits .and .i64 (shr .i64 (R c) j) 1 == 0))
def isAloneB (R : Int → Int) (n : Nat) (c : Int) : Bool := !(hasB (R 0) c) && closedB R c (gatherB R c n) n
/-- From corner c on, j corners being left. -/
def aloneB (R : Int → Int) (n : Nat) : Nat → Int
  | 0 => 0
  | j + 1 => if isAloneB R n ((n - (j + 1) : Nat) : Int) then gatherB R ((n - (j + 1) : Nat) : Int) n else aloneB R n j

theorem gatherB_succ (R : Int → Int) (c y : Int) (h : 0 ≤ y) : gatherB R c (y + 1).toNat = if hasB (R y) c then Go.bits .or .i64 (gatherB R c y.toNat) (shl .i64 1 y) else gatherB R c y.toNat := by
  obtain ⟨j, rfl⟩ := Int.eq_ofNat_of_zero_le h
  rfl
theorem closedB_succ (R : Int → Int) (c s z : Int) (h : 0 ≤ z) : closedB R c s (z + 1).toNat = (closedB R c s z.toNat && !(hasB s z && (Go.bits .and .i64 (shr .i64 (R c) z) 1 == 0))) := by
  obtain ⟨j, rfl⟩ := Int.eq_ofNat_of_zero_le h
  rfl
theorem closedB_false (R : Int → Int) (c s : Int) (n : Nat) (z : Int) (h0 : 0 ≤ z) (h1 : z < n) (hs : hasB s z = true) (hr : (Go.bits .and .i64 (shr .i64 (R c) z) 1 == 0) = true) : closedB R c s n = false := by
  obtain ⟨j, rfl⟩ := Int.eq_ofNat_of_zero_le h0
  have hj : j < n := by omega
  clear h0 h1
  induction n with
  | zero => omega
  | succ n ih =>
    rcases Nat.lt_or_ge j n with h | h
    · simp [closedB, ih h]
    · obtain rfl : j = n := by omega
      simp [closedB, hs, hr]
theorem aloneB_skip (R : Int → Int) (n k : Nat) (x : Int) (hx : 0 ≤ x ∧ x + ((k + 1 : Nat) : Int) = (n : Int)) (h : isAloneB R n x = false) : aloneB R n (k + 1) = aloneB R n k := by
  have e : ((n - (k + 1) : Nat) : Int) = x := by omega
  simp only [aloneB, e, h]; simp
theorem aloneB_hit (R : Int → Int) (n k : Nat) (x : Int) (hx : 0 ≤ x ∧ x + ((k + 1 : Nat) : Int) = (n : Int)) (h : isAloneB R n x = true) : aloneB R n (k + 1) = gatherB R x n := by
  have e : ((n - (k + 1) : Nat) : Int) = x := by omega
  simp only [aloneB, e, h]; simp

set_option maxHeartbeats 4000000 in
set_option maxRecDepth 100000 in
theorem alone_calls (k : Nat) (g0 : Nat) (n : Nat) (A0 : Option Addr) (c0 : Nat) (l : List S30) (m : Option Nat) (A1 : Option Addr) (c1 : Nat) (l1 : List Int) (vo : Value) (o : Int → Option Bool) (R : Int → Int) (w : World) (N : Int) (hN : N = n) (hn : n ≤ 7) (hn1 : 1 ≤ n)
    (hP0 : w.heap[g0]? = some (.cells #[.int .i64 N, .slice A0 l.length c0, .map m] 70 (0, 0))) (hr0 : Kd.C k30 w A0 l.length l) (hc0 : l.length ≤ c0) (hr1 : Kd.C (Kd.int .i64) w A1 l1.length l1) (hc1 : l1.length ≤ c1) (hF : IsFn Try.prog w vo o)
    (hR : ∀ d : Int, 0 ≤ d → d < n → branch_town_alone_2.f k d N l (fun i => branch_town_alone_1.f i l1 o) = some (R d)) :
    Calls Try.prog 68 #[.pointer (some ⟨g0, 0, none⟩), .slice A1 l1.length c1, vo] w fun e w' => e = .returned (.int .i64 (aloneB R n n)) ∧ Below w.heap.size w w' := by
  have HN := Aside0.mk hN
  clear hN
  have HR := Aside0.mk hR
  have HP0 := Aside0.mk hP0
  have HR0 := Aside0.mk hr0
  have HR1 := Aside0.mk hr1
  have HF := Aside0.mk hF
  clear hR hP0 hr0 hr1 hF
  obtain ⟨fo, caps, hvo⟩ : ∃ fo caps, vo = .func (.func fo) #[] caps := by obtain ⟨fo, caps, _, e, _⟩ := HF.out; exact ⟨fo, caps, e⟩
  subst hvo
  have hmf : ∀ (fn : Fn) (first cap : Array Value) (w : World), (Instr.makeFunc fn first cap).run Try.prog w = .ok (.func fn first cap) w := fun _ _ _ _ => rfl
  go_enter Try.func68, Try.ntmps68
  go_wp2_with (first
    | ((with_reducible refine gate_dst (N := 3) rfl ?_); refine box_event ?hg (N := 3) ?hd (cs := #[.pointer (some ⟨g0, 0, none⟩)]) (t := 65) ?hr ?_; (case hd => rfl); (case hg => rfl); (case hr => first | (go_simp; done) | (go_simp; rfl)); intro g3 hg3 w3 hbox3 hb3; have H3 := Aside0.mk hbox3; have B3 := Aside0.mk hb3; clear hg3 hbox3 hb3)
    | ((with_reducible refine gate_dst (N := 4) rfl ?_); refine box_event ?hg (N := 4) ?hd (cs := #[.slice A1 l1.length c1]) (t := 28) ?hr ?_; (case hd => rfl); (case hg => rfl); (case hr => first | (go_simp; done) | (go_simp; rfl)); intro g4 hg4 w4 hbox4 hb4; have H4 := Aside0.mk hbox4; have B4 := Aside0.mk hb4; clear hg4 hbox4 hb4)
    | ((with_reducible refine gate_dst (N := 5) rfl ?_); refine box_event ?hg (N := 5) ?hd (cs := #[.func (.func fo) #[] caps]) (t := 75) ?hr ?_; (case hd => rfl); (case hg => rfl); (case hr => first | (go_simp; done) | (go_simp; rfl)); intro g5 hg5 w5 hbox5 hb5; have H5 := Aside0.mk hbox5; have B5 := Aside0.mk hb5; clear hg5 hbox5 hb5))
  go_step3
  go_wp2_with (first | ((with_reducible refine gate_dst (N := 7) rfl ?_); refine box_event ?hg (N := 7) ?hd (cs := #[.nilFunc]) (t := 75) ?hr ?_; (case hd => rfl); (case hg => rfl); (case hr => first | (go_simp; done) | (go_simp; rfl)); intro g7 hg7 w7 hbox7 hb7; have H7 := Aside0.mk hbox7; have B7 := Aside0.mk hb7; have G7 := Aside0.mk (Nat.le_of_eq hg7.symm); clear hg7 hbox7 hb7; have hcz7 : w7.cell? ⟨g7, 0, none⟩ = some .nilFunc := (blk_cell H7.out 0).trans rfl; have hfz7 := blk_frozen H7.out 0))
  have e5 : Below w.heap.size w w5 := below_step (below_step (below_step (Below.refl _ _) B3.out) B4.out) B5.out
  have e7 : Below w.heap.size w w7 := below_step e5 B7.out
  have G0 : w.heap.size ≤ g7 := Nat.le_trans e5.size G7.out
  have ENV : Aside0 (AlEnv w (w7.setCell ⟨g7, 0, none⟩ (.func (.func 79) #[] #[.pointer (some ⟨g4, 0, none⟩), .pointer (some ⟨g5, 0, none⟩)])) g0 g3 g7 N A0 c0 l m (.func (.func 79) #[] #[.pointer (some ⟨g4, 0, none⟩), .pointer (some ⟨g5, 0, none⟩)]) (fun i => branch_town_alone_1.f i l1 o)) := by
    have s45 : w4.heap.size ≤ w5.heap.size := B5.out.size
    have s35 : w3.heap.size ≤ w5.heap.size := Nat.le_trans B4.out.size s45
    have n3 : g3 ≠ g7 := Nat.ne_of_lt (Nat.lt_of_lt_of_le (blk_lt H3.out) (Nat.le_trans s35 G7.out))
    have n4 : g4 ≠ g7 := Nat.ne_of_lt (Nat.lt_of_lt_of_le (blk_lt H4.out) (Nat.le_trans s45 G7.out))
    have n5 : g5 ≠ g7 := Nat.ne_of_lt (Nat.lt_of_lt_of_le (blk_lt H5.out) G7.out)
    have n0 : g0 ≠ g7 := Nat.ne_of_lt (Nat.lt_of_lt_of_le (blk_lt HP0.out) G0)
    refine ⟨⟨below_set e7 G0, blk_far (blk_below (blk_below (blk_below H3.out B4.out) B5.out) B7.out) n3 _, blk_far (blk_below HP0.out e7) n0 _, Kd.C_below HR0.out (below_set e7 G0), hc0, blk_put H7.out 0 _ rfl, ?_⟩⟩
    exact IsFn_alone1 (blk_far (blk_below (blk_below H4.out B5.out) B7.out) n4 _) (Kd.C_below HR1.out (below_set e7 G0)) hc1 (blk_far (blk_below H5.out B7.out) n5 _) (HF.out.below (below_set e7 G0))
  clear e5 G0 G7
  clear e7 hcz7 hfz7
  refine (ENV.out.call k 0 (R 0) (HR.out 0 (by omega) (by omega))).mono ?_
  rintro e w8 ⟨rfl, henv⟩
  clear ENV B3 B4 B5 B7 H3 H4 H5 H7
  have HE := Aside0.mk henv
  clear henv
  have hx3 := blk_cell HE.out.hP 0
  replace hx3 := hx3.trans rfl
  have hx0 := blk_cell HE.out.hQ 0
  replace hx0 := hx0.trans rfl
  go_wp2
  go_step3
  go_wp2
  clear hx3 hx0
  go_loopg [22] n (fun kq v22 w' => ∃ (x : Int), v22 = .int .i64 x ∧ Aside0 (0 ≤ x ∧ x + kq = n) ∧ Aside0 (aloneB R n kq = aloneB R n n) ∧ Aside0 (AlEnv w w' g0 g3 g7 N A0 c0 l m (.func (.func 79) #[] #[.pointer (some ⟨g4, 0, none⟩), .pointer (some ⟨g5, 0, none⟩)]) (fun i => branch_town_alone_1.f i l1 o)))
  case atStart => exact ⟨0, rfl, ⟨by simp⟩, ⟨rfl⟩, HE⟩
  case round =>
    clear HE
    obtain ⟨x, rfl, HX, HA, HE⟩ := hrel
    cases gk with
    | zero =>
      have b0 : decide (x < N) = false := decide_eq_false (by have := HX.out; have := HN.out; omega)
      go_wp2
      rw [Exit.noGoto_ret]
      go_ret
      exact ⟨by rw [← HA.out]; rfl, HE.out.hb⟩
    | succ k1 =>
      have b0 : decide (x < N) = true := decide_eq_true (by have := HX.out; have := HN.out; omega)
      have p0 : 0 ≤ x := by have := HX.out; omega
      have p0b : decide (0 ≤ x) = true := decide_eq_true p0
      have p1 : x ≤ 6 := by have := HX.out; omega
      obtain ⟨jA, hjA⟩ : ∃ j_ : Int, (shr .i64 (R 0) x) = j_ := ⟨_, rfl⟩
      have hjA_ : ((R 0) / 2 ^ min (x).toNat 64) = jA := hjA
      have hjAz : x ≤ 64 → ((R 0) / 2 ^ (x).toNat) = jA := shr_small hjA
      have hjAw : ((R 0) / 2 ^ (x).toNat) = jA := hjAz (by omega)
      by_cases tA : Go.bits .and .i64 jA 1 = 1
      · have tA0 : ((Go.bits .and .i64 jA 1) == 1) = true := beq_iff_eq.mpr tA
        have tA1 : ((Go.bits .and .i64 jA 1) != 1) = false := bne_eq_false_iff_eq.mpr tA
        have HT := Aside0.mk tA
        clear tA
        go_wp2
        go_roundg k1
        case measure => omega
        case rel => exact ⟨x + 1, by first | rfl | (simp; done) | go_num, ⟨by have := HX.out; omega⟩, ⟨by rw [← HA.out]; exact (aloneB_skip R n k1 x (by have := HX.out; omega) (by unfold isAloneB hasB; rw [hjA, HT.out]; rfl)).symm⟩, HE⟩
      · have tA0 : ((Go.bits .and .i64 jA 1) == 1) = false := beq_eq_false_iff_ne.mpr tA
        have tA1 : ((Go.bits .and .i64 jA 1) != 1) = true := bne_iff_ne.mpr tA
        have HT := Aside0.mk tA
        clear tA
        have hx3 : _ = some (Value.pointer (some ⟨g0, 0, none⟩)) := blk_cell HE.out.hP 0
        have hx0 : _ = some (Value.int .i64 N) := blk_cell HE.out.hQ 0
        go_wp2
        clear hx3 hx0
        go_loopg [11, 34] n (fun kq v11 v34 w' => ∃ (y s : Int), v34 = .int .i64 y ∧ v11 = .int .i64 s ∧ Aside0 (0 ≤ y ∧ y + kq = n) ∧ Aside0 (s = gatherB R x y.toNat) ∧ Aside0 (AlEnv w w' g0 g3 g7 N A0 c0 l m (.func (.func 79) #[] #[.pointer (some ⟨g4, 0, none⟩), .pointer (some ⟨g5, 0, none⟩)]) (fun i => branch_town_alone_1.f i l1 o)))
        case atStart => exact ⟨0, 0, rfl, rfl, ⟨by simp⟩, ⟨rfl⟩, HE⟩
        case round =>
          clear HE
          obtain ⟨y, s, rfl, rfl, HY, HS, HE⟩ := hrel
          cases gk with
          | zero =>
            have c0b : decide (y < N) = false := decide_eq_false (by have := HY.out; have := HN.out; omega)
            have hx3 : _ = some (Value.pointer (some ⟨g0, 0, none⟩)) := blk_cell HE.out.hP 0
            have hx0 : _ = some (Value.int .i64 N) := blk_cell HE.out.hQ 0
            go_wp2
            clear hx3 hx0
            have HG : Aside0 (s = gatherB R x n) := ⟨by rw [HS.out]; congr 1; have := HY.out; omega⟩
            clear HS HY c0b
            go_loopg [53] n (fun kq v53 w' => ∃ (z : Int), v53 = .int .i64 z ∧ Aside0 (0 ≤ z ∧ z + kq = n) ∧ Aside0 (closedB R x s z.toNat = true) ∧ Aside0 (AlEnv w w' g0 g3 g7 N A0 c0 l m (.func (.func 79) #[] #[.pointer (some ⟨g4, 0, none⟩), .pointer (some ⟨g5, 0, none⟩)]) (fun i => branch_town_alone_1.f i l1 o)))
            case atStart => exact ⟨0, rfl, ⟨by simp⟩, ⟨rfl⟩, HE⟩
            case round =>
              clear HE
              obtain ⟨z, rfl, HZ, HC, HE⟩ := hrel
              cases gk with
              | zero =>
                have d0b : decide (z < N) = false := decide_eq_false (by have := HZ.out; have := HN.out; omega)
                go_wp2
                rw [Exit.noGoto_ret]
                go_ret
                have hz_ : z.toNat = n := by have := HZ.out; omega
                have hc_ := HC.out
                rw [hz_, HG.out] at hc_
                have hi_ : isAloneB R n x = true := by unfold isAloneB; rw [hc_]; simp [hasB, hjA, HT.out]
                exact ⟨by rw [← HA.out, aloneB_hit R n k1 x (by have := HX.out; omega) hi_, ← HG.out]; rfl, HE.out.hb⟩
              | succ k3 =>
                have d0b : decide (z < N) = true := decide_eq_true (by have := HZ.out; have := HN.out; omega)
                have q0 : 0 ≤ z := by have := HZ.out; omega
                have q0b : decide (0 ≤ z) = true := decide_eq_true q0
                have q1 : z ≤ 6 := by have := HZ.out; omega
                obtain ⟨jS, hjS⟩ : ∃ j_ : Int, (shr .i64 s z) = j_ := ⟨_, rfl⟩
                have hjS_ : (s / 2 ^ min (z).toNat 64) = jS := hjS
                have hjSz : z ≤ 64 → (s / 2 ^ (z).toNat) = jS := shr_small hjS
                have hjSw : (s / 2 ^ (z).toNat) = jS := hjSz (by omega)
                by_cases tS : Go.bits .and .i64 jS 1 = 1
                · have tS0 : ((Go.bits .and .i64 jS 1) == 1) = true := beq_iff_eq.mpr tS
                  have tS1 : ((Go.bits .and .i64 jS 1) != 1) = false := bne_eq_false_iff_eq.mpr tS
                  have HTS := Aside0.mk tS
                  clear tS
                  go_wp2_with fail
                  refine (HE.out.call k x (R x) (HR.out x (by omega) (by have := HX.out; omega))).mono ?_
                  rintro e w9 ⟨rfl, henv⟩
                  clear HE
                  have HE := Aside0.mk henv
                  clear henv
                  obtain ⟨jT, hjT⟩ : ∃ j_ : Int, (shr .i64 (R x) z) = j_ := ⟨_, rfl⟩
                  have hjT_ : ((R x) / 2 ^ min (z).toNat 64) = jT := hjT
                  have hjTz : z ≤ 64 → ((R x) / 2 ^ (z).toNat) = jT := shr_small hjT
                  have hjTw : ((R x) / 2 ^ (z).toNat) = jT := hjTz (by omega)
                  by_cases tT : Go.bits .and .i64 jT 1 = 0
                  · have tT0 : ((Go.bits .and .i64 jT 1) == 0) = true := beq_iff_eq.mpr tT
                    have tT1 : ((Go.bits .and .i64 jT 1) != 0) = false := bne_eq_false_iff_eq.mpr tT
                    have HTT := Aside0.mk tT
                    clear tT
                    go_wp2
                    go_roundg k1
                    case measure => omega
                    case rel => exact ⟨x + 1, by first | rfl | (simp; done) | go_num, ⟨by have := HX.out; omega⟩, ⟨by rw [← HA.out]; exact (aloneB_skip R n k1 x (by have := HX.out; omega) (by unfold isAloneB; rw [← HG.out, closedB_false R x s n z q0 (by have := HZ.out; omega) (by simp [hasB, hjS, HTS.out]) (by rw [hjT, HTT.out]; rfl)]; simp)).symm⟩, HE⟩
                  · have tT0 : ((Go.bits .and .i64 jT 1) == 0) = false := beq_eq_false_iff_ne.mpr tT
                    have tT1 : ((Go.bits .and .i64 jT 1) != 0) = true := bne_iff_ne.mpr tT
                    have HTT := Aside0.mk tT
                    clear tT
                    go_wp2
                    go_roundg k3
                    case measure => omega
                    case rel => exact ⟨z + 1, by first | rfl | (simp; done) | go_num, ⟨by have := HZ.out; omega⟩, ⟨by rw [closedB_succ R x s z q0, HC.out, hjT, tT0]; simp⟩, HE⟩
                · have tS0 : ((Go.bits .and .i64 jS 1) == 1) = false := beq_eq_false_iff_ne.mpr tS
                  have tS1 : ((Go.bits .and .i64 jS 1) != 1) = true := bne_iff_ne.mpr tS
                  have HTS := Aside0.mk tS
                  clear tS
                  go_wp2
                  go_roundg k3
                  case measure => omega
                  case rel => exact ⟨z + 1, by first | rfl | (simp; done) | go_num, ⟨by have := HZ.out; omega⟩, ⟨by rw [closedB_succ R x s z q0, HC.out]; simp [hasB, hjS, HTS.out]⟩, HE⟩
          | succ k2 =>
            have c0b : decide (y < N) = true := decide_eq_true (by have := HY.out; have := HN.out; omega)
            have q0 : 0 ≤ y := by have := HY.out; omega
            have q0b : decide (0 ≤ y) = true := decide_eq_true q0
            have q1 : y ≤ 6 := by have := HY.out; omega
            go_wp2_with fail
            refine (HE.out.call k y (R y) (HR.out y (by omega) (by have := HY.out; omega))).mono ?_
            rintro e w9 ⟨rfl, henv⟩
            clear HE
            have HE := Aside0.mk henv
            clear henv
            obtain ⟨jR, hjR⟩ : ∃ j_ : Int, (shr .i64 (R y) x) = j_ := ⟨_, rfl⟩
            have hjR_ : ((R y) / 2 ^ min (x).toNat 64) = jR := hjR
            have hjRz : x ≤ 64 → ((R y) / 2 ^ (x).toNat) = jR := shr_small hjR
            have hjRw : ((R y) / 2 ^ (x).toNat) = jR := hjRz (by omega)
            by_cases tR : Go.bits .and .i64 jR 1 = 1
            · have tR0 : ((Go.bits .and .i64 jR 1) == 1) = true := beq_iff_eq.mpr tR
              have tR1 : ((Go.bits .and .i64 jR 1) != 1) = false := bne_eq_false_iff_eq.mpr tR
              have HTR := Aside0.mk tR
              clear tR
              obtain ⟨jL, hjL⟩ : ∃ j_ : Int, (shl .i64 1 y) = j_ := ⟨_, rfl⟩
              have hjL_ : (IntKind.i64.wrap (1 * 2 ^ min (y).toNat 64)) = jL := hjL
              have hjLz : y ≤ 64 → (IntKind.i64.wrap (1 * 2 ^ (y).toNat)) = jL := shl_small hjL
              have hjLu : (IntKind.i64.wrap (2 ^ min (y).toNat 64)) = jL := by have h_ := hjL_; rw [Int.one_mul] at h_; exact h_
              have hjLv : y ≤ 64 → (IntKind.i64.wrap (2 ^ (y).toNat)) = jL := fun hle_ => by have h_ := hjLz hle_; rw [Int.one_mul] at h_; exact h_
              have hjLy : (wrap64 (1 * 2 ^ min (y).toNat 64)) = jL := (i64_w _).symm.trans hjL_
              have hjLw1 : (IntKind.i64.wrap (1 * 2 ^ (y).toNat)) = jL := hjLz (by omega)
              have hjLw2 : (IntKind.i64.wrap (2 ^ (y).toNat)) = jL := hjLv (by omega)
              have hjLw3 : (wrap64 (1 * 2 ^ (y).toNat)) = jL := (i64_w _).symm.trans (hjLz (by omega))
              have hjLw4 : (wrap64 (2 ^ (y).toNat)) = jL := (i64_w _).symm.trans (hjLv (by omega))
              have hjLx : y ≤ 64 → (wrap64 (1 * 2 ^ (y).toNat)) = jL := fun h_ => (i64_w _).symm.trans (hjLz h_)
              go_wp2
              go_roundg k2
              case measure => omega
              case rel => exact ⟨y + 1, _, by first | rfl | (simp; done) | go_num, rfl, ⟨by have := HY.out; omega⟩, ⟨by rw [gatherB_succ R x y q0, ← HS.out]; simp [hasB, hjR, HTR.out, hjL]⟩, HE⟩
            · have tR0 : ((Go.bits .and .i64 jR 1) == 1) = false := beq_eq_false_iff_ne.mpr tR
              have tR1 : ((Go.bits .and .i64 jR 1) != 1) = true := bne_iff_ne.mpr tR
              have HTR := Aside0.mk tR
              clear tR
              go_wp2
              go_roundg k2
              case measure => omega
              case rel => exact ⟨y + 1, s, by first | rfl | (simp; done) | go_num, rfl, ⟨by have := HY.out; omega⟩, ⟨by rw [gatherB_succ R x y q0, ← HS.out]; simp [hasB, hjR, HTR.out]⟩, HE⟩

theorem gatherB_congr {R S : Int → Int} {n : Nat} (h : ∀ d : Int, 0 ≤ d → d < n → R d = S d) (c : Int) : ∀ j, j ≤ n → gatherB R c j = gatherB S c j
  | 0, _ => rfl
  | j + 1, hj => by simp only [gatherB]; rw [gatherB_congr h c j (by omega), h j (by omega) (by omega)]
theorem closedB_congr {R S : Int → Int} {n : Nat} (h : ∀ d : Int, 0 ≤ d → d < n → R d = S d) (c s : Int) (h0 : 0 ≤ c) (h1 : c < n) : ∀ j, closedB R c s j = closedB S c s j
  | 0 => rfl
  | j + 1 => by simp only [closedB]; rw [closedB_congr h c s h0 h1 j, h c h0 h1]
theorem isAloneB_congr {R S : Int → Int} {n : Nat} (h : ∀ d : Int, 0 ≤ d → d < n → R d = S d) (c : Int) (h0 : 0 ≤ c) (h1 : c < n) : isAloneB R n c = isAloneB S n c := by
  unfold isAloneB; rw [gatherB_congr h c n (Nat.le_refl _), closedB_congr h c _ h0 h1, h 0 (by omega) (by omega)]
theorem aloneB_congr {R S : Int → Int} {n : Nat} (h : ∀ d : Int, 0 ≤ d → d < n → R d = S d) : ∀ j, j ≤ n → aloneB R n j = aloneB S n j
  | 0, _ => rfl
  | j + 1, hj => by simp only [aloneB]; rw [aloneB_congr h j (by omega), isAloneB_congr h _ (by omega) (by omega), gatherB_congr h _ n (Nat.le_refl _)]

def branch_town_alone.f (k : Nat) (a0_0 : Int) (l0_1 : List (S30)) (l1 : List Int) (a2 : Int → Option Bool) : Option Int :=
  if 1 ≤ a0_0 ∧ a0_0 ≤ 7 ∧ (∀ d ∈ List.range a0_0.toNat, (branch_town_alone_2.f k (d : Int) a0_0 l0_1 (fun i => branch_town_alone_1.f i l1 a2)).isSome = true) then
    some (aloneB (fun d => (branch_town_alone_2.f k d a0_0 l0_1 (fun i => branch_town_alone_1.f i l1 a2)).getD 0) a0_0.toNat a0_0.toNat) else none

theorem branch_town_alone.mono : ∀ a0 a1 a3 a4 k, LeO (branch_town_alone.f k a0 a1 a3 a4) (branch_town_alone.f (k + 1) a0 a1 a3 a4) := by
  intro a0 a1 a3 a4 k r h
  unfold branch_town_alone.f at h ⊢
  split at h
  case isFalse => exact absurd h (by simp)
  rename_i hc
  obtain ⟨h1, h2, h3⟩ := hc
  have hs : ∀ d ∈ List.range a0.toNat, ∃ r, branch_town_alone_2.f k (d : Int) a0 a1 (fun i => branch_town_alone_1.f i a3 a4) = some r ∧ branch_town_alone_2.f (k + 1) (d : Int) a0 a1 (fun i => branch_town_alone_1.f i a3 a4) = some r := by
    intro d hd
    obtain ⟨r, hr⟩ := Option.isSome_iff_exists.1 (h3 d hd)
    exact ⟨r, hr, branch_town_alone_2.mono _ _ _ _ k r hr⟩
  rw [if_pos ⟨h1, h2, fun d hd => by obtain ⟨r, _, h⟩ := hs d hd; rw [h]; rfl⟩, ← h]
  refine congrArg some (aloneB_congr (fun d h0 h1 => ?_) _ (Nat.le_refl _)).symm
  obtain ⟨r, e1, e2⟩ := hs d.toNat (List.mem_range.2 (by omega))
  rw [Int.toNat_of_nonneg h0] at e1 e2
  simp only [e1, e2]

theorem branch_town_alone.calls (k : Nat) (g0 : Nat) (a0_0 : Int) (A0_1 : Option Addr) (c0_1 : Nat) (l0_1 : List (S30)) (a0_2 : Option Nat) (A1 : Option Addr) (c1 : Nat) (l1 : List Int) (vf2 : Value) (a2 : Int → Option Bool) (r : Int) (w : World) (hP0 : w.heap[g0]? = some (.cells #[.int .i64 a0_0, .slice A0_1 l0_1.length c0_1, .map a0_2] 70 (0, 0))) (hr0_1 : Kd.C k30 w A0_1 l0_1.length l0_1) (hc0_1 : l0_1.length ≤ c0_1) (hr1 : Kd.C (Kd.int .i64) w A1 l1.length l1) (hc1 : l1.length ≤ c1) (hF2 : IsFn Try.prog w vf2 a2) (h : branch_town_alone.f k a0_0 l0_1 l1 a2 = some r) :
    Calls Try.prog 68 #[.pointer (some ⟨g0, 0, none⟩), .slice A1 l1.length c1, vf2] w fun e w' => e = .returned (.int .i64 r) ∧ Below w.heap.size w w' := by
  unfold branch_town_alone.f at h
  split at h
  case isFalse => exact absurd h (by simp)
  rename_i hc
  obtain ⟨h1, h2, h3⟩ := hc
  obtain rfl := Option.some.inj h
  refine alone_calls k g0 a0_0.toNat A0_1 c0_1 l0_1 a0_2 A1 c1 l1 vf2 a2 _ w a0_0 (by omega) (by omega) (by omega) hP0 hr0_1 hc0_1 hr1 hc1 hF2 (fun d e0 e1 => ?_)
  obtain ⟨r, hr⟩ := Option.isSome_iff_exists.1 (h3 d.toNat (List.mem_range.2 (by omega)))
  rw [Int.toNat_of_nonneg e0] at hr
  rw [hr]; rfl
end Go.Proofs.Ytpmadffgdfholaa.B
