/- TreeLarge and TreeClassifies: the walks. -/
import Derived.Test.YtdiciemlbhkilaaDoorL
import Derived.Test.YtdiciemlbhkilaaDoorM
namespace Go.Proofs.YtdiciemlbhkilaaDoor
open Go Go.Cx Go.RowKit
set_option linter.unusedVariables false
set_option linter.unusedSimpArgs false
set_option maxHeartbeats 4000000
attribute [local irreducible] J JC thenK blockK loopK roundK drawK retK QW Qt pel List.set Calls

theorem check_len {a : Option Addr} {cap N : Nat} {ts : List Nd} (n : Int) {h : Heap} (hs : SlT encN 4 a ts h) (hN : ts.length = N) (w : World) (hw : Holds h w) :
    Calls Tryd.prog 18 #[.slice a N cap, .int .i64 n] w fun e w' => e = .returned (.int .i64 (checkT ts n)) ∧ Below w.heap.size w w' := by
  subst hN; exact check_any a cap ts n h hs w hw
theorem given_len {a : Option Addr} {cap N : Nat} {ts : List Nd} {h : Heap} (hs : SlT encN 4 a ts h) (hN : ts.length = N) (hl : ts.length ≤ 1000000) (w : World) (hw : Holds h w) :
    Calls Tryd.prog 13 #[.slice a N cap] w (Gives (Sls encN 4 69 ts) w) := by
  subst hN; exact given_any a cap ts h hs hl w hw
theorem refCheck_eq (a : Option Addr) (cap : Nat) (ts : List Nd) (n : Int) (h : Heap) (hs : SlT encN 4 a ts h) (w : World) (hw : Holds h w) :
    Calls Tryd.prog 12 #[.slice a ts.length cap, .int .i64 n] w fun e w' => e = .returned (.int .i64 (checkT ts n)) ∧ Below w.heap.size w w' := by
  rw [check_eq]; exact refCheck_any a cap ts n h hs w hw

theorem u8_wf {m : Int} (h : (Lit.int .u8 m).wf = true) : ∃ k : Nat, m = (k : Int) ∧ k ≤ 255 := by
  simp only [Lit.wf, Bool.and_eq_true, decide_eq_true_eq] at h
  have h1 : (0 : Int) ≤ m := h.1
  have h2 : m ≤ (255 : Int) := h.2
  exact ⟨m.toNat, by omega, by omega⟩
theorem class_eq (ts : List Nd) (s : Nat × Nat) : classR ts s = classT ts s := by unfold classR classT; rw [check_eq]
theorem votes_eq (s : Nat × Nat) : ∀ (l m : List TV), l.map (·.ts) = m.map (·.ts) → votesOf classR s m = votesOf classT s l
  | [], [], _ => rfl
  | x :: l, y :: m, h => by
    simp only [List.map_cons, List.cons.injEq] at h
    rw [votesOf, votesOf, votes_eq s l m h.2, ← h.1, class_eq]
  | [], _ :: _, h => by cases h
  | _ :: _, [], h => by cases h
theorem _root_.Go.Cx.RdH.mem {R h : Heap} {L : List Heap} (hm : h ∈ L) : RdH R L h := fun x hx => .inr (List.mem_flatten.2 ⟨h, hm, hx⟩)
end Go.Proofs.YtdiciemlbhkilaaDoor
