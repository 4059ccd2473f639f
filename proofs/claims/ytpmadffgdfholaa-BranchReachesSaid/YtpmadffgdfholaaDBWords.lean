/- Words of this session for the seat's printed texts: a function value of one number that answers a bool, and a call of it as one step of a walk. -/
import Derived.Test.YtpmadffgdfholaaWMore
namespace Go.Proofs.Ytpmadffgdfholaa.B
open Go.RowKit Go.Proofs.YtpmadffgdfholaaW.PrintWords Go.Proofs.YtpmadffgdfholaaW.PrintLast Go.Proofs.YtpmadffgdfholaaW.PrintMore

/-- v is a function value that answers o, in every world that stands above w, and changes nothing that was there. -/
def IsFn (P : Program) (w : World) (v : Value) (o : Int → Option Bool) : Prop :=
  ∃ (f : FuncId) (caps : Array Value) (fn : Func), v = .func (.func f) #[] caps ∧ P.funcs[f]? = some fn ∧ (fn.name == "runtime.NumGoroutine") = false ∧ fn.body.isSome = true ∧
    ∀ W, Below w.heap.size w W → ∀ i r, o i = some r → Calls P f (#[.int .i64 i] ++ caps) W fun e W' => e = .returned (.bool r) ∧ Below W.heap.size W W'

theorem IsFn.below {P : Program} {w W : World} {v : Value} {o : Int → Option Bool} (h : IsFn P w v o) (hB : Below w.heap.size w W) : IsFn P W v o := by
  obtain ⟨f, caps, fn, hv, hf, hn, hb, hc⟩ := h
  exact ⟨f, caps, fn, hv, hf, hn, hb, fun W2 hW2 => hc W2 (below_step hB hW2)⟩

section
variable {P : Program} {ops : Array Oper} {Q : Exit → Act → World → Prop}
/-- A call of a function value, as one step. -/
theorem goesF_ {rest : List Oper} {oi : Oper} {a : Act} {w0 w : World} (N : Option Tmp) (hd : oi.dst = N) (hg : oi.guard = none) {v : Value} {o : Int → Option Bool} (hF : IsFn P w0 v o) {x y : Operand} {ts : Array TypeId}
    (hop : oi.op = .call { callee := .value x, args := #[y], argTypes := ts }) (hx : a.eval x = v) {i : Int} (hy : a.eval y = .int .i64 i) (hB : Below w0.heap.size w0 w) {r : Bool} (ho : o i = some r)
    (h : ∀ w2, Below w.heap.size w w2 → wpList P ops Q rest (a.put N (.bool r)) w2) : wpList P ops Q (oi :: rest) a w := by
  obtain ⟨f, caps, fn, hv, hf, hn, hb, hc⟩ := hF
  refine wpList_plain hg fun K hK => ?_
  have he := enters_ hf hn hb (#[Value.int .i64 i] ++ caps) w
  have hrun : (execOp a.eval oi).run P w = .ok (.enter f (#[Value.int .i64 i] ++ caps)) w := by
    unfold execOp
    simp only [hop, resolve, Deferred.ofValue, invoke, hx, hv, hy, List.map_toArray, List.map_cons, List.map_nil]
    simpa using he
  unfold Oper.wp
  rw [hrun, Oper.upon_enter]
  refine (hc w hB i r ho).mono fun e w'' hh => ?_
  obtain ⟨rfl, hb2⟩ := hh
  subst hd
  exact hK _ _ (h _ hb2)
end
end Go.Proofs.Ytpmadffgdfholaa.B
