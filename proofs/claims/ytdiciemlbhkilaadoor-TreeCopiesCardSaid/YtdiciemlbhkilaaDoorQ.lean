/- How the arguments of the laws of trees read; the world in which the tables lie. -/
import Derived.Test.YtdiciemlbhkilaaDoorCxR
import Derived.Test.YtdiciemlbhkilaaDoorF
import Derived.Test.YtdiciemlbhkilaaDoorTie
import Derived.Test.YtdiciemlbhkilaaDoorCards
namespace Go.Proofs.YtdiciemlbhkilaaDoor
open Go Go.Cx Go.RowKit
set_option linter.unusedVariables false
set_option linter.unusedSimpArgs false
set_option maxHeartbeats 4000000
attribute [local irreducible] J JC thenK blockK loopK roundK drawK retK QW Qt pel List.set Calls

theorem own : ownKnob Tryd.prog.godebug = none := by kernel_rfl
theorem laidOut : laidOutB Tryd.prog = true := by kernel_rfl
theorem c_Nd : Tryd.prog.cellsOf 35 = 4 := by kernel_rfl
theorem c_int : Tryd.prog.cellsOf 3 = 1 := by kernel_rfl
theorem c_bool : Tryd.prog.cellsOf 4 = 1 := by kernel_rfl
theorem reads_Nd (W : World) : Reads Tryd.prog W 35 encN (fun _ => True) := by
  intro A ec base spare held fuel cs x h
  obtain ⟨hl, hp⟩ := reads_parts Tryd.underlying35 h
  rw [c_Nd] at hl
  obtain ⟨v, e0, _⟩ := hp 0 0 rfl c_int (reads_int Tryd.underlying3)
  obtain ⟨no, e1, _⟩ := hp 1 1 rfl c_int (reads_int Tryd.underlying3)
  obtain ⟨yes, e2, _⟩ := hp 2 2 rfl c_int (reads_int Tryd.underlying3)
  obtain ⟨c, e3, _⟩ := hp 3 3 rfl c_bool (reads_bool Tryd.underlying4)
  clear h hp
  match cs, hl with
  | [c0, c1, c2, c3], _ =>
    simp at e0 e1 e2 e3
    subst e0; subst e1; subst e2; subst e3
    exact ⟨⟨v, no, yes, c⟩, rfl, trivial⟩
theorem reads_tree (W : World) : Reads Tryd.prog W 23 (encSl (α := Nd)) (GoodSl W encN 4 (fun _ => True)) :=
  reads_slice Tryd.underlying23 c_Nd (by decide) (fun _ => rfl) (reads_Nd W)
theorem c_tree : Tryd.prog.cellsOf 23 = 1 := by kernel_rfl
theorem c_u64 : Tryd.prog.cellsOf 24 = 1 := by kernel_rfl
theorem c_set : Tryd.prog.cellsOf 26 = 2 := by kernel_rfl
theorem reads_forest (W : World) : Reads Tryd.prog W 29 (encSl (α := TV)) (GoodSl W encTV 1 (fun t => SlT encN 4 t.a t.ts (heapOf W))) :=
  reads_slice Tryd.underlying29 c_tree (by decide) (fun _ => rfl) ((reads_tree W).map (fun u => (⟨u.a, u.cap, u.ts⟩ : TV)) (fun u hu => ⟨rfl, hu.sl⟩))
theorem u64_wf {m : Int} (h : (Lit.int .u64 m).wf = true) : ∃ k : Nat, m = (k : Int) ∧ k < 2 ^ 64 := by
  simp only [Lit.wf, Bool.and_eq_true, decide_eq_true_eq] at h
  have h1 : (0 : Int) ≤ m := h.1
  have h2 : m ≤ (18446744073709551615 : Int) := h.2
  exact ⟨m.toNat, by omega, by omega⟩
theorem reads_set (W : World) : Reads Tryd.prog W 26 encS okS := by
  have h : Reads Tryd.prog W 26 _ _ := reads_array2 Tryd.underlying26 c_u64 c_set (reads_int Tryd.underlying24)
  refine h.map (fun p : Int × Int => (p.1.toNat, p.2.toNat)) (fun u hu => ?_)
  obtain ⟨a, h1, h2⟩ := u64_wf hu.1
  obtain ⟨b, h3, h4⟩ := u64_wf hu.2
  obtain ⟨x, y⟩ := u
  simp only at h1 h3
  subst h1; subst h3
  exact ⟨rfl, h2, h4⟩
theorem door_met (os : Os) (args : Array Value) : laidMetH Tryd.prog Rows.treeCopiesRow.laid ((World.doorLaid Tryd.prog 400 os).forCall (fun _ _ => 0) ⟨#[], args, []⟩).memory :=
  laidMetH_of_parts3 (fuel := 8) (laidMet_of_run' 8 (by kernel_rfl) (by kernel_rfl)) (by kernel_rfl) (by kernel_rfl)
end Go.Proofs.YtdiciemlbhkilaaDoor
