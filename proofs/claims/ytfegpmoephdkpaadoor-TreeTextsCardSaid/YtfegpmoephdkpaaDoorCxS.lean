/-
  Further rules of the layer: a part of a string from one place to another.
-/
import Derived.Test.YtfegpmoephdkpaaDoorCxM
namespace Go.Cx
open Go Go.RowKit
set_option linter.unusedVariables false
set_option linter.unusedSimpArgs false
section
variable {P : Program} {n : Nat} {w0 : World} {R : Heap} {l0 : List Oper} {K : Exit → Fr → List Heap → Prop} {f : Fr} {L : List Heap} {rest : List (Nat × Oper)} {κ : Nat}
variable {Γ : List (Nat × TI)} {d : Nat} {op : Op} {ty : TypeId} {pos : String} {aft : Array Edge} {g : Option (Nat × Bool)} {t u : TypeId} {x y z : Operand} {a b : List UInt8}
theorem J.sB {ki kj : IntKind} {i j : Int} {s1 b1 : Nat} {z1 : Option Value} (hΓ : Fits P Γ)
    (k : J P n w0 R l0 K rest (upd f d (.string (S ((a.drop i.toNat).take (j.toNat - i.toNat))))) L)
    (hg : wantB n f l0 ⟨some d, .slice t x (some y) (some z) none, ty, pos, aft, g⟩ = true := by exact rfl) (hx : Cx.ev n f x = .string (S a) := by exact rfl) (hy : Cx.ev n f y = .int ki i := by exact rfl) (hz : Cx.ev n f z = .int kj j := by exact rfl) (ht : look Γ t = some ⟨.string, s1, z1, b1⟩ := by exact rfl) (h0 : 0 ≤ i := by omega) (h1 : i ≤ j := by omega) (h2 : j ≤ (a.length : Int) := by first | omega | (simp only [List.length_append, List.length_cons, List.length_nil]; omega)) :
    J P n w0 R l0 K ((κ, ⟨some d, .slice t x (some y) (some z) none, ty, pos, aft, g⟩) :: rest) f L :=
  J.p hg (fun w => by
    have hu := (hΓ t _ ht).1
    have h3 : 0 ≤ j := by omega
    have : (Instr.sliceAt t (.string (S a)) (some (.int ki i)) (some (.int kj j)) none).run P w = .ok (.string (S ((a.drop i.toNat).take (j.toNat - i.toNat)))) w := by
      rw [run_sliceAt_string w t _ _ _ _ hu]
      unfold Instr.slice Instr.sliceBounds Instr.sliceBound
      simp only [asIntOf, Sem.run_bind, Sem.run_pure, Result.andThen_ok, run_underlying hu]
      simp [S_size, h0, h1, h2, h3, S_extract, go_sem]
      intro hlt
      exfalso
      omega
    simp only [execOp, hx, hy, hz, Sem.run_bind, Option.map_some, Option.map_none]
    rw [this]
    rfl) k
end
end Go.Cx
