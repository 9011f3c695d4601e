/- How the arguments of the laws of encode read. -/
import Derived.Test.YtinpcimogojefaaCxR
import Derived.Test.YtinpcimogojefaaEs
import Derived.Test.YtinpcimogojefaaRows
namespace Go.Proofs.Ytinpcimogojefaa
open Go Go.Cx Go.RowKit
set_option linter.unusedVariables false
set_option linter.unusedSimpArgs false
set_option maxHeartbeats 4000000
attribute [local irreducible] J JC thenK blockK loopK roundK drawK retK QW Qt pel List.set Calls
theorem own : ownKnob Try.prog.godebug = none := by kernel_rfl
theorem laidOut : laidOutB Try.prog = true := by kernel_rfl
theorem c_int : Try.prog.cellsOf 3 = 1 := by kernel_rfl
theorem c_ints : Try.prog.cellsOf 22 = 1 := by kernel_rfl
theorem c_sum : Try.prog.cellsOf 24 = 3 := by kernel_rfl
theorem reads_ints (W : World) : Reads Try.prog W 22 (encSl (α := Int)) (GoodSl W encI 1 (fun _ => True)) :=
  reads_slice Try.underlying22 c_int (by decide) (fun _ => rfl) ((reads_int Try.underlying3).map (fun u => u) (fun u hu => ⟨rfl, trivial⟩))
theorem reads_sum (W : World) : Reads Try.prog W 24 encSV (fun s => SIn s (heapOf W)) := by
  intro A ec base spare held fuel cs x h
  obtain ⟨hl, hp⟩ := reads_parts Try.underlying24 h
  rw [c_sum] at hl
  obtain ⟨c, e0, g0⟩ := hp 0 0 rfl c_ints (reads_ints W)
  obtain ⟨l, e1, g1⟩ := hp 1 1 rfl c_ints (reads_ints W)
  obtain ⟨n, e2, _⟩ := hp 2 2 rfl c_int (reads_int Try.underlying3)
  clear h hp
  match cs, hl with
  | [c0, c1, c2], _ =>
    simp [encSl] at e0 e1 e2
    subst e0; subst e1; subst e2
    exact ⟨⟨c.a, c.cap, c.ts, l.a, l.cap, l.ts, n⟩, rfl, ⟨g0.sl, g1.sl⟩⟩
theorem reads_sums (W : World) : Reads Try.prog W 26 (encSl (α := SV)) (GoodSl W encSV 3 (fun s => SIn s (heapOf W))) :=
  reads_slice Try.underlying26 c_sum (by decide) (fun _ => rfl) (reads_sum W)
theorem sums_in {W : World} {u : Sl SV} (h : GoodSl W encSV 3 (fun s => SIn s (heapOf W)) u) : SumsIn u.a u.ts (heapOf W) := ⟨h.sl, h.all⟩
theorem sums_len {W : World} {u : Sl SV} (h : GoodSl W encSV 3 (fun s => SIn s (heapOf W)) u) : u.ts.length ≤ 9223372036854775807 := by
  have := h.cap
  unfold maxLen at this
  omega
theorem c_u64 : Try.prog.cellsOf 50 = 1 := by kernel_rfl
theorem c_set : Try.prog.cellsOf 52 = 2 := by kernel_rfl
def encSet (s : Nat × Nat) : List Value := [.int .u64 (s.1 : Int), .int .u64 (s.2 : Int)]
theorem u64_wf {m : Int} (h : (Lit.int .u64 m).wf = true) : ∃ k : Nat, m = (k : Int) ∧ k < 2 ^ 64 := by
  simp only [Lit.wf, Bool.and_eq_true, decide_eq_true_eq] at h
  have h1 : (0 : Int) ≤ m := h.1
  have h2 : m ≤ (18446744073709551615 : Int) := h.2
  exact ⟨m.toNat, by omega, by omega⟩
theorem reads_set (W : World) : Reads Try.prog W 52 encSet okS := by
  have h : Reads Try.prog W 52 _ _ := reads_array2 Try.underlying52 c_u64 c_set (reads_int Try.underlying50)
  refine h.map (fun p : Int × Int => (p.1.toNat, p.2.toNat)) (fun u hu => ?_)
  obtain ⟨a, h1, h2⟩ := u64_wf hu.1
  obtain ⟨b, h3, h4⟩ := u64_wf hu.2
  obtain ⟨x, y⟩ := u
  simp only at h1 h3
  subst h1; subst h3
  exact ⟨rfl, h2, h4⟩
end Go.Proofs.Ytinpcimogojefaa
