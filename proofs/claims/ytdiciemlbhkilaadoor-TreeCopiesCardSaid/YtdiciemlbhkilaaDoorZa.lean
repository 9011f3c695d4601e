/- The document's circuits (chapter 7): Size, Check, of circuits of the five kinds of gates that a forest needs. -/
import Derived.Test.YtdiciemlbhkilaaDoorYa
import Derived.Test.YtdiciemlbhkilaaDoorCxV
namespace Go.Proofs.YtdiciemlbhkilaaDoor
open Go Go.Cx Go.RowKit
set_option linter.unusedVariables false
set_option linter.unusedSimpArgs false
set_option maxHeartbeats 4000000
attribute [local irreducible] J JC thenK blockK loopK roundK drawK retK QW Qt pel List.set Calls

/-- a gate as a value -/
structure Gt where
  kind : Int
  lit : Int
  a : Option Addr
  cap : Nat
  ins : List Int
instance : Inhabited Gt := ⟨⟨0, 0, none, 0, []⟩⟩
def encG (g : Gt) : List Value := [.int .i64 g.kind, .int .i64 g.lit, .slice g.a g.ins.length g.cap]
/-- a gate that the document allows at a place -/
structure OkG (n : Int) (i : Nat) (g : Gt) : Prop where
  al : (g.kind = 0 ∨ g.kind = 1 ∨ g.kind = 2) ∧ g.ins.length = 0 ∨ g.kind = 8 ∧ g.ins.length = 3 ∨ g.kind = 4 ∧ g.ins.length = 1
  lit : g.kind = 2 ∧ 1 ≤ g.lit ∧ g.lit ≤ n ∨ g.kind ≠ 2 ∧ g.lit = 0
  ins : ∀ j, j < g.ins.length → 0 ≤ g.ins.getD j default ∧ g.ins.getD j default < i
/-- a circuit that lies in a fragment -/
structure Cir (n : Int) (a : Option Addr) (gs : List Gt) (h : Heap) : Prop where
  n0 : 0 ≤ n
  n1 : n ≤ 128
  len0 : 0 < gs.length
  len1 : gs.length ≤ 4096
  sl : SlT encG 3 a gs h
  ins : ∀ i, i < gs.length → SlT encI 1 (gs.getD i default).a (gs.getD i default).ins h
  ok : ∀ i, i < gs.length → OkG n i (gs.getD i default)
def cv (n : Int) (a : Option Addr) (len cap : Nat) : Value := .agg ⟨[.int .i64 n, .slice a len cap]⟩

def sizeP (gs : List Gt) : Nat := (gs.map fun g => g.ins.length).sum
theorem size_take (gs : List Gt) (k : Nat) (hk : k < gs.length) : sizeP (gs.take (k + 1)) = sizeP (gs.take k) + (gs.getD k default).ins.length := by
  rw [← take_one gs k hk]; unfold sizeP; simp
theorem size_le (gs : List Gt) (hg : ∀ i, i < gs.length → (gs.getD i default).ins.length ≤ 3) : ∀ k, k ≤ gs.length → sizeP (gs.take k) ≤ 3 * k
  | 0, _ => by simp [sizeP]
  | k + 1, h => by rw [size_take gs k (by omega)]; have := size_le gs hg k (by omega); have := hg k (by omega); omega
theorem Cir.small {n : Int} {a : Option Addr} {gs : List Gt} {h : Heap} (c : Cir n a gs h) (i : Nat) (hi : i < gs.length) : (gs.getD i default).ins.length ≤ 3 := by
  have := (c.ok i hi).al; omega
end Go.Proofs.YtdiciemlbhkilaaDoor

/- The document's circuits (chapter 7): Check. -/
namespace Go.Proofs.YtdiciemlbhkilaaDoor
open Go Go.Cx Go.RowKit
set_option linter.unusedVariables false
set_option linter.unusedSimpArgs false
set_option maxHeartbeats 4000000
attribute [local irreducible] J JC thenK blockK loopK roundK drawK retK QW Qt pel List.set Calls

end Go.Proofs.YtdiciemlbhkilaaDoor

/- The document's circuits (chapter 7): the value of a gate. -/
namespace Go.Proofs.YtdiciemlbhkilaaDoor
open Go Go.Cx Go.RowKit
set_option linter.unusedVariables false
set_option linter.unusedSimpArgs false
set_option maxHeartbeats 4000000
attribute [local irreducible] J JC thenK blockK loopK roundK drawK retK QW Qt pel List.set Calls

theorem slm {α : Type} {enc : α → List Value} {size : Nat} {a : Option Addr} {ts : List α} {h h' : Heap} (hs : SlT enc size a ts h) (hh : ∀ x, x ∈ h → x ∈ h') : SlT enc size a ts h' :=
  ⟨hs.len, fun i hi => by
    obtain ⟨b, off, cs, e, fr, h1, h2, h3⟩ := hs.at_ i hi
    exact ⟨b, off, cs, e, fr, h1, hh _ h2, h3⟩⟩
/-- the value of a gate out of the values of those before it -/
def valueP (s : Nat × Nat) (v : List Bool) (g : Gt) : Bool :=
  if g.kind = 1 then true else if g.kind = 2 then hasB s g.lit else if g.kind = 4 then g.ins.all (fun j => v.getD j.toNat default)
  else if g.kind = 8 then (if v.getD (g.ins.getD 0 default).toNat default then v.getD (g.ins.getD 1 default).toNat default else v.getD (g.ins.getD 2 default).toNat default) else false
theorem all_take (p : Int → Bool) (l : List Int) (k : Nat) (hk : k < l.length) : (l.take (k + 1)).all p = ((l.take k).all p && p (l.getD k default)) := by
  rw [← take_one l k hk, List.all_append]; simp

end Go.Proofs.YtdiciemlbhkilaaDoor

/- The document's circuits (chapter 7): Eval. -/
namespace Go.Proofs.YtdiciemlbhkilaaDoor
open Go Go.Cx Go.RowKit
set_option linter.unusedVariables false
set_option linter.unusedSimpArgs false
set_option maxHeartbeats 4000000
attribute [local irreducible] J JC thenK blockK loopK roundK drawK retK QW Qt pel List.set Calls

/-- the values of the gates -/
def vals (s : Nat × Nat) (gs : List Gt) : List Bool := gs.foldl (fun v g => v ++ [valueP s v g]) []
theorem vals_snoc (s : Nat × Nat) (gs : List Gt) (g : Gt) : vals s (gs ++ [g]) = vals s gs ++ [valueP s (vals s gs) g] := by
  unfold vals; rw [List.foldl_append]; rfl
theorem vals_take (s : Nat × Nat) (gs : List Gt) (k : Nat) (hk : k < gs.length) : vals s (gs.take (k + 1)) = vals s (gs.take k) ++ [valueP s (vals s (gs.take k)) (gs.getD k default)] := by
  rw [← take_one gs k hk, vals_snoc]
theorem vals_len (s : Nat × Nat) (gs : List Gt) : ∀ k, k ≤ gs.length → (vals s (gs.take k)).length = k
  | 0, _ => rfl
  | k + 1, h => by rw [vals_take s gs k (by omega), List.length_append, vals_len s gs k (by omega)]; rfl
theorem vals_nil (s : Nat × Nat) (gs : List Gt) : vals s (gs.take 0) = [] := rfl
attribute [local irreducible] vals
end Go.Proofs.YtdiciemlbhkilaaDoor
