/- Ordered diagrams in plain Lean: nodes, what they say, equal functions are equal nodes. -/
import Derived.Test.YthnhijdfcmcnhaaCxT
namespace Go.Proofs.Ythnhijdfcmcnhaa
open Go Go.Cx
set_option linter.unusedVariables false
set_option linter.unusedSimpArgs false
/-- a node: place, low, high -/
structure N3 where
  p : Nat
  l : Nat
  h : Nat
  deriving DecidableEq
instance : Inhabited N3 := ⟨⟨0, 0, 0⟩⟩
def nd (ns : List N3) (i : Nat) : N3 := ns.getD i default
/-- what a node says: by fuel -/
def ev (ns : List N3) (a : Nat → Bool) : Nat → Nat → Bool
  | 0, i => decide (i = 1)
  | f + 1, i => if i < 2 then decide (i = 1) else if a (nd ns i).p then ev ns a f (nd ns i).h else ev ns a f (nd ns i).l
structure WF (n : Nat) (ns : List N3) : Prop where
  two : 2 ≤ ns.length
  c0 : nd ns 0 = ⟨n, 0, 0⟩
  c1 : nd ns 1 = ⟨n, 0, 0⟩
  pl : ∀ i, 2 ≤ i → i < ns.length → (nd ns i).p < n
  ll : ∀ i, 2 ≤ i → i < ns.length → (nd ns i).l < ns.length
  hl : ∀ i, 2 ≤ i → i < ns.length → (nd ns i).h < ns.length
  lp : ∀ i, 2 ≤ i → i < ns.length → (nd ns i).p < (nd ns (nd ns i).l).p
  hp : ∀ i, 2 ≤ i → i < ns.length → (nd ns i).p < (nd ns (nd ns i).h).p
  ne : ∀ i, 2 ≤ i → i < ns.length → (nd ns i).l ≠ (nd ns i).h
  inj : ∀ i j, 2 ≤ i → i < ns.length → 2 ≤ j → j < ns.length → nd ns i = nd ns j → i = j
def fn (n : Nat) (ns : List N3) (i : Nat) (a : Nat → Bool) : Bool := ev ns a n i
theorem ev_const (ns : List N3) (a : Nat → Bool) (i : Nat) (hi : i < 2) : ∀ f, ev ns a f i = decide (i = 1)
  | 0 => rfl
  | f + 1 => by rw [ev, if_pos hi]
theorem WF.pconst {n : Nat} {ns : List N3} (w : WF n ns) {i : Nat} (hi : i < 2) : (nd ns i).p = n := by
  rcases Nat.lt_or_ge i 1 with h | h
  · rw [show i = 0 by omega, w.c0]
  · rw [show i = 1 by omega, w.c1]
theorem WF.ple {n : Nat} {ns : List N3} (w : WF n ns) {i : Nat} (hi : i < ns.length) : (nd ns i).p ≤ n := by
  rcases Nat.lt_or_ge i 2 with h | h
  · rw [w.pconst h]; exact Nat.le_refl _
  · exact Nat.le_of_lt (w.pl i h hi)
theorem WF.nonconst {n : Nat} {ns : List N3} (w : WF n ns) {i : Nat} (h : (nd ns i).p < n) : 2 ≤ i := by
  rcases Nat.lt_or_ge i 2 with h2 | h2
  · rw [w.pconst h2] at h; omega
  · exact h2
theorem ev_fuel {n : Nat} {ns : List N3} (w : WF n ns) (a : Nat → Bool) : ∀ (f g i : Nat), i < ns.length → n - (nd ns i).p ≤ f → n - (nd ns i).p ≤ g → ev ns a f i = ev ns a g i
  | f, g, i, hi, hf, hg => by
    rcases Nat.lt_or_ge i 2 with h2 | h2
    · rw [ev_const _ _ _ h2, ev_const _ _ _ h2]
    · have hp := w.pl i h2 hi
      obtain ⟨f', rfl⟩ : ∃ f', f = f' + 1 := ⟨f - 1, by omega⟩
      obtain ⟨g', rfl⟩ : ∃ g', g = g' + 1 := ⟨g - 1, by omega⟩
      have hl := w.lp i h2 hi
      have hh := w.hp i h2 hi
      have hn : ¬ i < 2 := by omega
      rw [ev, ev, if_neg hn, if_neg hn, ev_fuel w a f' g' _ (w.ll i h2 hi) (by omega) (by omega), ev_fuel w a f' g' _ (w.hl i h2 hi) (by omega) (by omega)]
theorem fn_0 {n : Nat} {ns : List N3} (w : WF n ns) (a : Nat → Bool) : fn n ns 0 a = false := by unfold fn; rw [ev_const _ _ _ (by omega)]; rfl
theorem fn_1 {n : Nat} {ns : List N3} (w : WF n ns) (a : Nat → Bool) : fn n ns 1 a = true := by unfold fn; rw [ev_const _ _ _ (by omega)]; rfl
theorem fn_node {n : Nat} {ns : List N3} (w : WF n ns) (a : Nat → Bool) {i : Nat} (h2 : 2 ≤ i) (hi : i < ns.length) :
    fn n ns i a = if a (nd ns i).p then fn n ns (nd ns i).h a else fn n ns (nd ns i).l a := by
  have hp := w.pl i h2 hi
  have hl := w.lp i h2 hi
  have hh := w.hp i h2 hi
  unfold fn
  rw [ev_fuel w a n ((n - 1) + 1) i hi (by omega) (by omega), ev, if_neg (by omega), ev_fuel w a (n - 1) n _ (w.ll i h2 hi) (by omega) (by omega), ev_fuel w a (n - 1) n _ (w.hl i h2 hi) (by omega) (by omega)]
def up (a : Nat → Bool) (k : Nat) (b : Bool) : Nat → Bool := fun j => if j = k then b else a j
theorem up_ne (a : Nat → Bool) {k j : Nat} (b : Bool) (h : j ≠ k) : up a k b j = a j := by unfold up; rw [if_neg h]
theorem up_eq (a : Nat → Bool) (k : Nat) (b : Bool) : up a k b k = b := by unfold up; rw [if_pos rfl]
/-- places ahead of a node's do not matter -/
theorem fn_dep {n : Nat} {ns : List N3} (w : WF n ns) {a b : Nat → Bool} : ∀ (m i : Nat), n - (nd ns i).p ≤ m → i < ns.length → (∀ k, (nd ns i).p ≤ k → a k = b k) → fn n ns i a = fn n ns i b
  | m, i, hm, hi, hab => by
    rcases Nat.lt_or_ge i 2 with h2 | h2
    · unfold fn; rw [ev_const _ _ _ h2, ev_const _ _ _ h2]
    · have hp := w.pl i h2 hi
      have hl := w.lp i h2 hi
      have hh := w.hp i h2 hi
      obtain ⟨m', rfl⟩ : ∃ m', m = m' + 1 := ⟨m - 1, by omega⟩
      rw [fn_node w a h2 hi, fn_node w b h2 hi, hab _ (Nat.le_refl _), fn_dep w m' _ (by omega) (w.ll i h2 hi) fun k hk => hab k (by omega), fn_dep w m' _ (by omega) (w.hl i h2 hi) fun k hk => hab k (by omega)]
theorem fn_up {n : Nat} {ns : List N3} (w : WF n ns) (a : Nat → Bool) {i k : Nat} (b : Bool) (hi : i < ns.length) (hk : k < (nd ns i).p) : fn n ns i (up a k b) = fn n ns i a :=
  fn_dep w _ i (Nat.le_refl _) hi fun j hj => up_ne a b (by omega)
/-- equal functions are equal nodes -/
theorem canon {n : Nat} {ns : List N3} (w : WF n ns) : ∀ (m i j : Nat), n - (nd ns i).p ≤ m → n - (nd ns j).p ≤ m → i < ns.length → j < ns.length → (∀ a, fn n ns i a = fn n ns j a) → i = j
  | m, i, j, hmi, hmj, hi, hj, h => by
    have side : ∀ (i j : Nat), n - (nd ns i).p ≤ m → n - (nd ns j).p ≤ m → i < ns.length → j < ns.length → (∀ a, fn n ns i a = fn n ns j a) → (nd ns i).p < (nd ns j).p → False := by
      intro i j hmi hmj hi hj h hlt
      have hpj := w.ple hj
      have h2 := w.nonconst (show (nd ns i).p < n by omega)
      have hl := w.lp i h2 hi
      have hh := w.hp i h2 hi
      refine w.ne i h2 hi (match m with
        | 0 => by omega
        | m' + 1 => canon w m' _ _ (by omega) (by omega) (w.ll i h2 hi) (w.hl i h2 hi) fun a => ?_)
      have e0 := h (up a (nd ns i).p false)
      have e1 := h (up a (nd ns i).p true)
      rw [fn_node w _ h2 hi, up_eq, if_neg (by decide), fn_up w a _ (w.ll i h2 hi) hl, fn_up w a _ hj hlt] at e0
      rw [fn_node w _ h2 hi, up_eq, if_pos rfl, fn_up w a _ (w.hl i h2 hi) hh, fn_up w a _ hj hlt] at e1
      rw [e0, e1]
    rcases Nat.lt_trichotomy (nd ns i).p (nd ns j).p with hlt | heq | hgt
    · exact (side i j hmi hmj hi hj h hlt).elim
    · rcases Nat.lt_or_ge i 2 with hi2 | hi2
      · have hj2 : j < 2 := by
          rcases Nat.lt_or_ge j 2 with h2 | h2
          · exact h2
          · have := w.pl j h2 hj
            rw [w.pconst hi2] at heq; omega
        have h0 := h fun _ => false
        unfold fn at h0
        rw [ev_const _ _ _ hi2, ev_const _ _ _ hj2] at h0
        have := decide_eq_decide.1 h0
        omega
      · have hpi := w.pl i hi2 hi
        have hj2 := w.nonconst (show (nd ns j).p < n by omega)
        have hli := w.lp i hi2 hi
        have hhi := w.hp i hi2 hi
        have hlj := w.lp j hj2 hj
        have hhj := w.hp j hj2 hj
        obtain ⟨m', rfl⟩ : ∃ m', m = m' + 1 := ⟨m - 1, by omega⟩
        refine w.inj i j hi2 hi hj2 hj ?_
        have el : (nd ns i).l = (nd ns j).l := canon w m' _ _ (by omega) (by omega) (w.ll i hi2 hi) (w.ll j hj2 hj) fun a => by
          have e0 := h (up a (nd ns i).p false)
          rw [fn_node w _ hi2 hi, up_eq, if_neg (by decide), fn_up w a _ (w.ll i hi2 hi) hli, fn_node w _ hj2 hj, ← heq, up_eq, if_neg (by decide), fn_up w a _ (w.ll j hj2 hj) (by omega)] at e0
          exact e0
        have eh : (nd ns i).h = (nd ns j).h := canon w m' _ _ (by omega) (by omega) (w.hl i hi2 hi) (w.hl j hj2 hj) fun a => by
          have e1 := h (up a (nd ns i).p true)
          rw [fn_node w _ hi2 hi, up_eq, if_pos rfl, fn_up w a _ (w.hl i hi2 hi) hhi, fn_node w _ hj2 hj, ← heq, up_eq, if_pos rfl, fn_up w a _ (w.hl j hj2 hj) (by omega)] at e1
          exact e1
        cases hni : nd ns i
        cases hnj : nd ns j
        rw [hni, hnj] at heq el eh
        simp only at heq el eh
        rw [heq, el, eh]
    · exact (side j i hmj hmi hj hi (fun a => (h a).symm) hgt).elim
theorem WF.eq {n : Nat} {ns : List N3} (w : WF n ns) {i j : Nat} (hi : i < ns.length) (hj : j < ns.length) (h : ∀ a, fn n ns i a = fn n ns j a) : i = j :=
  canon w n i j (by omega) (by omega) hi hj h
/-- a longer list says the same -/
structure Ext (ns ms : List N3) : Prop where
  le : ns.length ≤ ms.length
  at_ : ∀ i, i < ns.length → nd ms i = nd ns i
theorem Ext.refl (ns : List N3) : Ext ns ns := ⟨Nat.le_refl _, fun _ _ => rfl⟩
theorem Ext.trans {a b c : List N3} (h : Ext a b) (g : Ext b c) : Ext a c := ⟨Nat.le_trans h.le g.le, fun i hi => by rw [g.at_ i (Nat.lt_of_lt_of_le hi h.le), h.at_ i hi]⟩
theorem nd_app (ns : List N3) (x : N3) {i : Nat} (hi : i < ns.length) : nd (ns ++ [x]) i = nd ns i := by
  unfold nd; rw [List.getD_eq_getElem?_getD, List.getElem?_append_left hi, ← List.getD_eq_getElem?_getD]
theorem nd_last (ns : List N3) (x : N3) : nd (ns ++ [x]) ns.length = x := by
  unfold nd; rw [List.getD_eq_getElem?_getD, List.getElem?_append_right (Nat.le_refl _), Nat.sub_self]; rfl
theorem Ext.app (ns : List N3) (x : N3) : Ext ns (ns ++ [x]) := ⟨by simp, fun i hi => nd_app ns x hi⟩
theorem ev_ext {n : Nat} {ns ms : List N3} (w : WF n ns) (e : Ext ns ms) (a : Nat → Bool) : ∀ (f i : Nat), i < ns.length → ev ms a f i = ev ns a f i
  | 0, i, _ => rfl
  | f + 1, i, hi => by
    rw [ev, ev, e.at_ i hi]
    split
    · rfl
    · rename_i h2
      rw [ev_ext w e a f _ (w.ll i (by omega) hi), ev_ext w e a f _ (w.hl i (by omega) hi)]
theorem fn_ext {n : Nat} {ns ms : List N3} (w : WF n ns) (e : Ext ns ms) {i : Nat} (hi : i < ns.length) (a : Nat → Bool) : fn n ms i a = fn n ns i a := ev_ext w e a n i hi
/-- a new node -/
theorem WF.add {n : Nat} {ns : List N3} (w : WF n ns) {x : N3} (hp : x.p < n) (hl : x.l < ns.length) (hh : x.h < ns.length) (hlp : x.p < (nd ns x.l).p) (hhp : x.p < (nd ns x.h).p) (hne : x.l ≠ x.h) (hnew : ∀ i, 2 ≤ i → i < ns.length → nd ns i ≠ x) : WF n (ns ++ [x]) := by
  have hlen : (ns ++ [x]).length = ns.length + 1 := by simp
  have h2 := w.two
  have key : ∀ i, 2 ≤ i → i < (ns ++ [x]).length → (i < ns.length ∧ nd (ns ++ [x]) i = nd ns i) ∨ (i = ns.length ∧ nd (ns ++ [x]) i = x) := fun i _ hi => by
    rcases Nat.lt_or_ge i ns.length with h | h
    · exact .inl ⟨h, nd_app ns x h⟩
    · have : i = ns.length := by omega
      subst this
      exact .inr ⟨rfl, nd_last ns x⟩
  refine ⟨by omega, by rw [nd_app ns x (by omega), w.c0], by rw [nd_app ns x (by omega), w.c1], ?_, ?_, ?_, ?_, ?_, ?_, ?_⟩
  · intro i hi2 hi
    rcases key i hi2 hi with ⟨h, e⟩ | ⟨h, e⟩ <;> rw [e]
    · exact w.pl i hi2 h
    · exact hp
  · intro i hi2 hi
    rcases key i hi2 hi with ⟨h, e⟩ | ⟨h, e⟩ <;> rw [e, hlen]
    · have := w.ll i hi2 h; omega
    · omega
  · intro i hi2 hi
    rcases key i hi2 hi with ⟨h, e⟩ | ⟨h, e⟩ <;> rw [e, hlen]
    · have := w.hl i hi2 h; omega
    · omega
  · intro i hi2 hi
    rcases key i hi2 hi with ⟨h, e⟩ | ⟨h, e⟩ <;> rw [e]
    · rw [nd_app ns x (w.ll i hi2 h)]; exact w.lp i hi2 h
    · rw [nd_app ns x hl]; exact hlp
  · intro i hi2 hi
    rcases key i hi2 hi with ⟨h, e⟩ | ⟨h, e⟩ <;> rw [e]
    · rw [nd_app ns x (w.hl i hi2 h)]; exact w.hp i hi2 h
    · rw [nd_app ns x hh]; exact hhp
  · intro i hi2 hi
    rcases key i hi2 hi with ⟨h, e⟩ | ⟨h, e⟩ <;> rw [e]
    · exact w.ne i hi2 h
    · exact hne
  · intro i j hi2 hi hj2 hj hij
    rcases key i hi2 hi with ⟨h, e⟩ | ⟨h, e⟩ <;> rcases key j hj2 hj with ⟨h', e'⟩ | ⟨h', e'⟩ <;> rw [e, e'] at hij
    · exact w.inj i j hi2 h hj2 h' hij
    · exact (hnew i hi2 h hij).elim
    · exact (hnew j hj2 h' hij.symm).elim
    · omega
end Go.Proofs.Ythnhijdfcmcnhaa
