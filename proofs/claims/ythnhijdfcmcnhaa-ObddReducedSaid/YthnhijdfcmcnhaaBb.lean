/- The choice of three nodes in plain Lean: its parts, its result, the store's maps. -/
import Derived.Test.YthnhijdfcmcnhaaBa
namespace Go.Proofs.Ythnhijdfcmcnhaa
open Go Go.Cx
set_option linter.unusedVariables false
set_option linter.unusedSimpArgs false
/-- what a node leaves where the variable with a place is false, or true -/
def partN (ns : List N3) (a k : Nat) (b : Bool) : Nat := if (nd ns a).p ≠ k then a else if b then (nd ns a).h else (nd ns a).l
theorem part_lt {n : Nat} {ns : List N3} (w : WF n ns) {a k : Nat} (b : Bool) (ha : a < ns.length) (hk : k < n) : partN ns a k b < ns.length := by
  unfold partN
  split
  · exact ha
  · rename_i h
    have h2 := w.nonconst (show (nd ns a).p < n by omega)
    cases b
    · exact w.ll a h2 ha
    · exact w.hl a h2 ha
theorem part_p {n : Nat} {ns : List N3} (w : WF n ns) {a k : Nat} (b : Bool) (ha : a < ns.length) (hk : k < n) (hp : k ≤ (nd ns a).p) : k < (nd ns (partN ns a k b)).p := by
  unfold partN
  split
  · omega
  · rename_i h
    have h2 := w.nonconst (show (nd ns a).p < n by omega)
    have hl := w.lp a h2 ha
    have hh := w.hp a h2 ha
    cases b
    · show k < (nd ns (nd ns a).l).p; omega
    · show k < (nd ns (nd ns a).h).p; omega
theorem part_fn {n : Nat} {ns : List N3} (w : WF n ns) {a k : Nat} (c : Nat → Bool) (ha : a < ns.length) (hk : k < n) : fn n ns (partN ns a k (c k)) c = fn n ns a c := by
  unfold partN
  split
  · rfl
  · rename_i h
    have hk2 : (nd ns a).p = k := by omega
    have h2 := w.nonconst (show (nd ns a).p < n by omega)
    rw [fn_node w c h2 ha, hk2]
    cases c k <;> rfl
theorem part_ext {ns ms : List N3} (e : Ext ns ms) {a k : Nat} (b : Bool) (ha : a < ns.length) : partN ms a k b = partN ns a k b := by unfold partN; rw [e.at_ a ha]
structure T3 where
  a : Nat
  b : Nat
  c : Nat
  deriving DecidableEq
instance : Inhabited T3 := ⟨⟨0, 0, 0⟩⟩
def T3.lt (x : T3) (m : Nat) : Prop := x.a < m ∧ x.b < m ∧ x.c < m
def T3.from (ns : List N3) (x : T3) (k : Nat) : Prop := k ≤ (nd ns x.a).p ∧ k ≤ (nd ns x.b).p ∧ k ≤ (nd ns x.c).p
def partT (ns : List N3) (x : T3) (k : Nat) (b : Bool) : T3 := ⟨partN ns x.a k b, partN ns x.b k b, partN ns x.c k b⟩
/-- y is b where a is true, and c elsewhere -/
structure Ite (n : Nat) (ns : List N3) (x : T3) (y : Nat) : Prop where
  lt : y < ns.length
  eq : ∀ a, fn n ns y a = if fn n ns x.a a then fn n ns x.b a else fn n ns x.c a
theorem Ite.ext {n : Nat} {ns ms : List N3} (w : WF n ns) (e : Ext ns ms) {x : T3} {y : Nat} (hx : x.lt ns.length) (h : Ite n ns x y) : Ite n ms x y :=
  ⟨Nat.lt_of_lt_of_le h.lt e.le, fun a => by rw [fn_ext w e h.lt, fn_ext w e hx.1, fn_ext w e hx.2.1, fn_ext w e hx.2.2, h.eq]⟩
theorem Ite.t1 {n : Nat} {ns : List N3} (w : WF n ns) {x : T3} (hx : x.lt ns.length) (h : x.a = 1 ∨ x.b = x.c) : Ite n ns x x.b :=
  ⟨hx.2.1, fun a => by
    rcases h with h | h
    · rw [h, fn_1 w]; rfl
    · rw [h]; split <;> rfl⟩
theorem Ite.t2 {n : Nat} {ns : List N3} (w : WF n ns) {x : T3} (hx : x.lt ns.length) (h : x.a = 0) : Ite n ns x x.c :=
  ⟨hx.2.2, fun a => by rw [h, fn_0 w]; rfl⟩
theorem Ite.t3 {n : Nat} {ns : List N3} (w : WF n ns) {x : T3} (hx : x.lt ns.length) (h : x.b = 1) (g : x.c = 0) : Ite n ns x x.a :=
  ⟨hx.1, fun a => by rw [h, g, fn_0 w, fn_1 w]; cases fn n ns x.a a <;> rfl⟩
/-- a node that does not depend on the places ahead of k has its place from k on -/
theorem from_dep {n : Nat} {ns : List N3} (w : WF n ns) {y k : Nat} (hy : y < ns.length) (hk : k ≤ n) (h : ∀ a j b, j < k → fn n ns y (up a j b) = fn n ns y a) : k ≤ (nd ns y).p := by
  rcases Nat.lt_or_ge (nd ns y).p k with hlt | hge
  · exfalso
    have h2 := w.nonconst (show (nd ns y).p < n by omega)
    refine w.ne y h2 hy (w.eq (w.ll y h2 hy) (w.hl y h2 hy) fun a => ?_)
    have e0 := h a (nd ns y).p false hlt
    have e1 := h a (nd ns y).p true hlt
    rw [fn_node w _ h2 hy, up_eq, if_neg (by decide), fn_up w a _ (w.ll y h2 hy) (w.lp y h2 hy)] at e0
    rw [fn_node w _ h2 hy, up_eq, if_pos rfl, fn_up w a _ (w.hl y h2 hy) (w.hp y h2 hy)] at e1
    rw [e0, e1]
  · exact hge
theorem Ite.from {n : Nat} {ns : List N3} (w : WF n ns) {x : T3} {y k : Nat} (h : Ite n ns x y) (hx : x.lt ns.length) (hf : x.from ns k) : k ≤ (nd ns y).p := by
  have hk : k ≤ n := Nat.le_trans hf.1 (w.ple hx.1)
  refine from_dep w h.lt hk fun a j b hj => ?_
  rw [h.eq, h.eq, fn_up w a b hx.1 (by have := hf.1; omega), fn_up w a b hx.2.1 (by have := hf.2.1; omega), fn_up w a b hx.2.2 (by have := hf.2.2; omega)]
/-- the results for the parts make the result -/
theorem Ite.join {n : Nat} {ns : List N3} (w : WF n ns) {x : T3} {k l h y : Nat} (hx : x.lt ns.length) (hk : k < n) (hl : Ite n ns (partT ns x k false) l) (hh : Ite n ns (partT ns x k true) h)
    (hy : y < ns.length) (he : ∀ a, fn n ns y a = if a k then fn n ns h a else fn n ns l a) : Ite n ns x y := by
  refine ⟨hy, fun a => ?_⟩
  have h1 := part_fn w a hx.1 hk
  have h2 := part_fn w a hx.2.1 hk
  have h3 := part_fn w a hx.2.2 hk
  rw [he]
  cases ha : a k with
  | true =>
    rw [ha] at h1 h2 h3
    rw [if_pos rfl, hh.eq]
    show (if fn n ns (partN ns x.a k true) a then fn n ns (partN ns x.b k true) a else fn n ns (partN ns x.c k true) a) = _
    rw [h1, h2, h3]
  | false =>
    rw [ha] at h1 h2 h3
    rw [if_neg (by decide), hl.eq]
    show (if fn n ns (partN ns x.a k false) a then fn n ns (partN ns x.b k false) a else fn n ns (partN ns x.c k false) a) = _
    rw [h1, h2, h3]
/-- the map of nodes holds all nodes, and nothing else -/
structure UOk (ns : List N3) (u : List (N3 × Nat)) : Prop where
  all : ∀ i, 2 ≤ i → i < ns.length → (nd ns i, i) ∈ u
  only : ∀ x i, (x, i) ∈ u → 2 ≤ i ∧ i < ns.length ∧ nd ns i = x
/-- the map of choices is right -/
def MOk (n : Nat) (ns : List N3) (m : List (T3 × Nat)) : Prop := ∀ x y, (x, y) ∈ m → x.lt ns.length ∧ Ite n ns x y
theorem MOk.ext {n : Nat} {ns ms : List N3} (w : WF n ns) (e : Ext ns ms) {m : List (T3 × Nat)} (h : MOk n ns m) : MOk n ms m := fun x y hxy => by
  obtain ⟨h1, h2⟩ := h x y hxy
  exact ⟨⟨Nat.lt_of_lt_of_le h1.1 e.le, Nat.lt_of_lt_of_le h1.2.1 e.le, Nat.lt_of_lt_of_le h1.2.2 e.le⟩, h2.ext w e h1⟩
end Go.Proofs.Ythnhijdfcmcnhaa
