/-
  The layer's rules for calls, literals of structs and slices, and for slices: read, made, appended to.
-/
import Derived.Test.YthnhijdfcmcnhaaCxD
namespace Go.Cx
open Go Go.RowKit
set_option linter.unusedVariables false
set_option linter.unusedSimpArgs false

/-- A function that is entered when it is called. -/
def Entr (P : Program) (fid : FuncId) : Prop := ∀ (vs : Array Value) (w : World), (callFunc fid vs).run P w = .ok (.enter fid vs) w
theorem Entr.of {P : Program} {fid : FuncId} {fn : Func} (hf : P.funcs[fid]? = some fn) (hn : (fn.name == "runtime.NumGoroutine") = false) (hb : fn.body.isNone = false) : Entr P fid := fun vs w => by
  have hp : (program : Sem Program).run P w = .ok P w := rfl
  unfold callFunc
  simp only [Sem.run_bind, hp, Result.andThen_ok, hf, hn, hb, if_false, Bool.false_eq_true]
  rfl

/-- Arguments, laid out. -/
def argsEv (ρ : Operand → Value) : List Operand → Option (List Value)
  | [] => some []
  | x :: l => match frc (ρ x), argsEv ρ l with | some v, some vs => some (v :: vs) | _, _ => none
theorem argsEv_eq {ρ : Operand → Value} : ∀ {l : List Operand} {vs : List Value}, argsEv ρ l = some vs → l.map ρ = vs
  | [], _, h => by simp only [argsEv, Option.some.injEq] at h; subst h; rfl
  | x :: l, vs, h => by
    simp only [argsEv] at h
    cases hx : frc (ρ x) with
    | none => rw [hx] at h; cases h
    | some v =>
      cases hl : argsEv ρ l with
      | none => rw [hx, hl] at h; cases h
      | some us =>
        rw [hx, hl] at h
        simp only [Option.some.injEq] at h
        subst h
        rw [List.map_cons, frc_eq hx, argsEv_eq hl]

section
variable {P : Program} {n : Nat} {w0 : World} {R : Heap} {l0 : List Oper} {K : Exit → Fr → List Heap → Prop} {f : Fr} {L : List Heap} {rest : List (Nat × Oper)} {κ : Nat}
variable {Γ : List (Nat × TI)} {d : Nat} {op : Op} {ty : TypeId} {pos : String} {aft : Array Edge} {g : Option (Nat × Bool)}

theorem call_run {fid : FuncId} {xs : List Operand} {ats : Array TypeId} {vs : List Value} {dst : Option Tmp} (he : Entr P fid) (ha : argsEv (Cx.ev n f) xs = some vs) (w : World) :
    (execOp (Cx.ev n f) ⟨dst, .call ⟨.value (.func fid), ⟨xs⟩, ats⟩, ty, pos, aft, g⟩).run P w = .ok (.enter fid ⟨vs⟩) w := by
  have h1 : (⟨xs⟩ : Array Operand).map (Cx.ev n f) = ⟨vs⟩ := by rw [← argsEv_eq ha]; simp
  simp only [execOp, resolve, h1, Cx.ev, Deferred.ofValue, Sem.run_bind, Sem.run_pure, Result.andThen_ok, invoke]
  have := he ⟨vs⟩ w
  simpa using this
/-- A call of a function value: a function of the program with what it has captured. -/
theorem callv_run {fid : FuncId} {x : Operand} {xs : List Operand} {ats : Array TypeId} {vs cp : List Value} {dst : Option Tmp} (he : Entr P fid) (hx : Cx.ev n f x = .func (.func fid) ⟨[]⟩ ⟨cp⟩) (ha : argsEv (Cx.ev n f) xs = some vs) (w : World) :
    (execOp (Cx.ev n f) ⟨dst, .call ⟨.value x, ⟨xs⟩, ats⟩, ty, pos, aft, g⟩).run P w = .ok (.enter fid ⟨vs ++ cp⟩) w := by
  have h1 : (⟨xs⟩ : Array Operand).map (Cx.ev n f) = ⟨vs⟩ := by rw [← argsEv_eq ha]; simp
  simp only [execOp, resolve, h1, hx, Deferred.ofValue, Sem.run_bind, Sem.run_pure, Result.andThen_ok, invoke]
  have := he ⟨vs ++ cp⟩ w
  simpa using this

/-- A call that hands back one value and makes memory alone. -/
theorem J.call0 {fid : FuncId} {xs : List Operand} {ats : Array TypeId} {vs : List Value} {v : Value} (he : Entr P fid) (hg : wantB n f l0 ⟨some d, .call ⟨.value (.func fid), ⟨xs⟩, ats⟩, ty, pos, aft, g⟩ = true) (ha : argsEv (Cx.ev n f) xs = some vs)
    (hc : ∀ w, H w0 R L w → Calls P fid ⟨vs⟩ w fun e w' => e = .returned v ∧ Below w.heap.size w w') (k : J P n w0 R l0 K rest (upd f d v) L) : J P n w0 R l0 K ((κ + 1, ⟨some d, .call ⟨.value (.func fid), ⟨xs⟩, ats⟩, ty, pos, aft, g⟩) :: rest) f L :=
  J.c0 hg (call_run he ha) hc k
/-- A call that hands back memory of its own making. -/
theorem J.call1 {fid : FuncId} {xs : List Operand} {ats : Array TypeId} {vs : List Value} {Φ : Value → Heap → Prop} (he : Entr P fid) (hg : wantB n f l0 ⟨some d, .call ⟨.value (.func fid), ⟨xs⟩, ats⟩, ty, pos, aft, g⟩ = true) (ha : argsEv (Cx.ev n f) xs = some vs)
    (hc : ∀ w, H w0 R L w → Calls P fid ⟨vs⟩ w (Gives Φ w)) (k : ∀ v h, Φ v h → J P n w0 R l0 K rest (upd f d v) (h :: L)) : J P n w0 R l0 K ((κ + 2, ⟨some d, .call ⟨.value (.func fid), ⟨xs⟩, ats⟩, ty, pos, aft, g⟩) :: rest) f L :=
  J.c1 hg (call_run he ha) hc k
/-- A call that may also write the call's own memory. -/
theorem J.callx {fid : FuncId} {xs : List Operand} {ats : Array TypeId} {vs : List Value} {Φ : Value → List Heap → Prop} (he : Entr P fid) (hg : wantB n f l0 ⟨some d, .call ⟨.value (.func fid), ⟨xs⟩, ats⟩, ty, pos, aft, g⟩ = true) (ha : argsEv (Cx.ev n f) xs = some vs)
    (hc : ∀ w, H w0 R L w → Calls P fid ⟨vs⟩ w fun e w' => ∃ v L', e = .returned v ∧ H w0 R L' w' ∧ Φ v L') (k : ∀ v L', Φ v L' → J P n w0 R l0 K rest (upd f d v) L') : J P n w0 R l0 K ((2, ⟨some d, .call ⟨.value (.func fid), ⟨xs⟩, ats⟩, ty, pos, aft, g⟩) :: rest) f L :=
  J.c hg (call_run he ha) hc k
theorem J.callv0 {fid : FuncId} {x : Operand} {xs : List Operand} {ats : Array TypeId} {vs cp : List Value} {v : Value} (he : Entr P fid) (hx : Cx.ev n f x = .func (.func fid) ⟨[]⟩ ⟨cp⟩) (hg : wantB n f l0 ⟨some d, .call ⟨.value x, ⟨xs⟩, ats⟩, ty, pos, aft, g⟩ = true) (ha : argsEv (Cx.ev n f) xs = some vs)
    (hc : ∀ w, H w0 R L w → Calls P fid ⟨vs ++ cp⟩ w fun e w' => e = .returned v ∧ Below w.heap.size w w') (k : J P n w0 R l0 K rest (upd f d v) L) : J P n w0 R l0 K ((κ + 1, ⟨some d, .call ⟨.value x, ⟨xs⟩, ats⟩, ty, pos, aft, g⟩) :: rest) f L :=
  J.c0 hg (callv_run he hx ha) hc k
theorem J.callvx {fid : FuncId} {x : Operand} {xs : List Operand} {ats : Array TypeId} {vs cp : List Value} {Φ : Value → List Heap → Prop} (he : Entr P fid) (hx : Cx.ev n f x = .func (.func fid) ⟨[]⟩ ⟨cp⟩) (hg : wantB n f l0 ⟨some d, .call ⟨.value x, ⟨xs⟩, ats⟩, ty, pos, aft, g⟩ = true) (ha : argsEv (Cx.ev n f) xs = some vs)
    (hc : ∀ w, H w0 R L w → Calls P fid ⟨vs ++ cp⟩ w fun e w' => ∃ v L', e = .returned v ∧ H w0 R L' w' ∧ Φ v L') (k : ∀ v L', Φ v L' → J P n w0 R l0 K rest (upd f d v) L') : J P n w0 R l0 K ((2, ⟨some d, .call ⟨.value x, ⟨xs⟩, ats⟩, ty, pos, aft, g⟩) :: rest) f L :=
  J.c hg (callv_run he hx ha) hc k
end
end Go.Cx
