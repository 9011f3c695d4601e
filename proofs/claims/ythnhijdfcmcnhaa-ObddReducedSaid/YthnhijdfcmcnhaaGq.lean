/- How the arguments of the laws of obdd read. -/
import Derived.Test.YthnhijdfcmcnhaaCxR
import Derived.Test.YthnhijdfcmcnhaaBr
import Derived.Test.YthnhijdfcmcnhaaRows
namespace Go.Proofs.Ythnhijdfcmcnhaa
open Go Go.Cx Go.RowKit
set_option linter.unusedVariables false
set_option linter.unusedSimpArgs false
set_option maxHeartbeats 4000000
attribute [local irreducible] J JC thenK blockK loopK roundK drawK retK QW Qt pel List.set Calls
theorem own : ownKnob Try.prog.godebug = none := by kernel_rfl
theorem laidOut : laidOutB Try.prog = true := by kernel_rfl
theorem c_int : Try.prog.cellsOf 3 = 1 := by kernel_rfl
theorem reads_ints (W : World) : Reads Try.prog W 22 (encSl (α := Int)) (GoodSl W encI 1 (fun _ => True)) :=
  reads_slice Try.underlying22 c_int (by decide) (fun _ => rfl) ((reads_int Try.underlying3).map (fun u => u) (fun u hu => ⟨rfl, trivial⟩))
theorem c_u16 : Try.prog.cellsOf 113 = 1 := by kernel_rfl
def encH (x : Nat) : List Value := [.int .u16 (x : Int)]
theorem u16_wf {m : Int} (h : (Lit.int .u16 m).wf = true) : ∃ k : Nat, m = (k : Int) ∧ k < 65536 := by
  simp only [Lit.wf, Bool.and_eq_true, decide_eq_true_eq] at h
  have h1 : (0 : Int) ≤ m := h.1
  have h2 : m ≤ (65535 : Int) := h.2
  exact ⟨m.toNat, by omega, by omega⟩
theorem reads_u16s (W : World) : Reads Try.prog W 32 (encSl (α := Nat)) (GoodSl W encH 1 (fun x => x < 65536)) :=
  reads_slice Try.underlying32 c_u16 (by decide) (fun _ => rfl) ((reads_int Try.underlying113).map (fun u : Int => u.toNat) (fun u hu => by
    obtain ⟨k, h1, h2⟩ := u16_wf hu
    subst h1
    exact ⟨rfl, h2⟩))
end Go.Proofs.Ythnhijdfcmcnhaa
