/- SiftKnown: part 5. -/
import Derived.Test.YtbhgahjeocnfcaaKnD
import Derived.Shelf.Strings.Builder1
import Derived.Shelf.Small.Bits
import Derived.Shelf.Small.Wraps
import Derived.Shelf.Strings.BuilderF
import Derived.Shelf.Strings.BuilderK
import Derived.Shelf.Strconv.Itoa0
import Derived.Shelf.Sort.Plain
import Derived.Shelf.Strings.BuilderCap
import Derived.Ground.Names2Prog
import Derived.Shelf.Slices.Clone
import Derived.Shelf.Slices.SearchI
import Derived.Shelf.Slices.In.SortNone
import Derived.Ground.SlgnProg
import Derived.Shelf.SlicesE.Clone
import Derived.Ground.SlgfProg
import Derived.Shelf.SlicesE.IndexFunc
import Derived.Shelf.SlicesE.DeleteFunc
import Derived.Test.YtbhgahjeocnfcaaProg
import Derived.Shelf.SortM.Plain
import Derived.Lib.AppendIntMem
namespace Go.Proofs.Ytbhgahjeocnfcaa
open Go Go.Cx
set_option linter.unusedVariables false
set_option linter.unusedSimpArgs false
def asg (n i : Nat) : Nat → Bool := fun k => decide (k < n) && i.testBit (n - 1 - k)
theorem asg_hi {n m r k : Nat} (hm : n - k = m + 1) : asg n (r + 2 ^ m) k = !(asg n r k) := by
  unfold asg
  have e : n - 1 - k = m := by omega
  have hk : k < n := by omega
  rw [e, decide_eq_true hk, Bool.true_and, Bool.true_and, Nat.add_comm, Nat.testBit_two_pow_add_eq]
theorem asg_lt {n m r k : Nat} (hm : n - k = m + 1) (h : r < 2 ^ m) : asg n r k = false := by
  unfold asg
  have e : n - 1 - k = m := by omega
  rw [e, Nat.testBit_lt_two_pow h, Bool.and_false]
theorem asg_other {n m r k j : Nat} (hm : n - k = m + 1) (hj : k < j) : asg n (r + 2 ^ m) j = asg n r j := by
  unfold asg
  by_cases hn : j < n
  · rw [decide_eq_true hn, Bool.true_and, Bool.true_and, Nat.add_comm, Nat.testBit_two_pow_add_gt (by omega)]
  · rw [decide_eq_false hn, Bool.false_and, Bool.false_and]
def blk (n : Nat) (ns : List N3) (k i : Nat) : List Bool := (List.range (2 ^ (n - k))).map fun r => fn n ns i (asg n r)
def tab (n : Nat) (ns : List N3) (i : Nat) : List Bool := blk n ns 0 i
theorem range_two (m : Nat) : List.range (2 ^ (m + 1)) = List.range (2 ^ m) ++ (List.range (2 ^ m)).map (· + 2 ^ m) := by
  rw [Nat.pow_succ, Nat.mul_two, List.range_add]
  congr 1
  exact List.map_congr_left fun a _ => Nat.add_comm _ _
theorem blk_len (n : Nat) (ns : List N3) (k i : Nat) : (blk n ns k i).length = 2 ^ (n - k) := by simp [blk]
theorem blk_later {n : Nat} {ns : List N3} (w : WF n ns) {k i : Nat} (hi : i < ns.length) (hk : k < (nd ns i).p) : blk n ns k i = blk n ns (k + 1) i ++ blk n ns (k + 1) i := by
  have := w.ple hi
  obtain ⟨m, hm⟩ : ∃ m, n - k = m + 1 := ⟨n - k - 1, by omega⟩
  unfold blk
  rw [hm, show n - (k + 1) = m by omega, range_two, List.map_append, List.map_map]
  congr 1
  refine List.map_congr_left fun r hr => fn_dep w _ i (Nat.le_refl _) hi fun j hj => asg_other hm (by omega)
theorem blk_node {n : Nat} {ns : List N3} (w : WF n ns) {i : Nat} (h2 : 2 ≤ i) (hi : i < ns.length) :
    blk n ns (nd ns i).p i = blk n ns ((nd ns i).p + 1) (nd ns i).l ++ blk n ns ((nd ns i).p + 1) (nd ns i).h := by
  have := w.pl i h2 hi
  have hl := w.lp i h2 hi
  have hh := w.hp i h2 hi
  obtain ⟨m, hm⟩ : ∃ m, n - (nd ns i).p = m + 1 := ⟨n - (nd ns i).p - 1, by omega⟩
  unfold blk
  rw [hm, show n - ((nd ns i).p + 1) = m by omega, range_two, List.map_append, List.map_map]
  congr 1
  · refine List.map_congr_left fun r hr => ?_
    rw [fn_node w _ h2 hi, asg_lt hm (List.mem_range.1 hr)]; rfl
  · refine List.map_congr_left fun r hr => ?_
    show fn n ns i (asg n (r + 2 ^ m)) = _
    rw [fn_node w _ h2 hi, asg_hi hm, asg_lt hm (List.mem_range.1 hr)]
    exact fn_dep w _ _ (Nat.le_refl _) (w.hl i h2 hi) fun j hj => asg_other hm (by omega)
theorem blk_end {n : Nat} {ns : List N3} (w : WF n ns) {i : Nat} (h2 : i < 2) : blk n ns n i = [decide (i = 1)] := by
  unfold blk
  rw [Nat.sub_self]
  show [fn n ns i _] = _
  unfold fn; rw [ev_const _ _ _ h2]
theorem blk_inj {n : Nat} {ns : List N3} (w : WF n ns) : ∀ (m k i j : Nat), n - k ≤ m → k ≤ (nd ns i).p → k ≤ (nd ns j).p → i < ns.length → j < ns.length → blk n ns k i = blk n ns k j → ∀ a, fn n ns i a = fn n ns j a
  | m, k, i, j, hm, hki, hkj, hi, hj, h => fun a => by
    have hpi := w.ple hi
    have hpj := w.ple hj
    have len : ∀ x y, (blk n ns (k + 1) x).length = (blk n ns (k + 1) y).length := fun x y => by rw [blk_len, blk_len]
    -- the halves of a block and what they say
    have half : ∀ x, k ≤ (nd ns x).p → x < ns.length → k < n → ∃ l h, blk n ns k x = blk n ns (k + 1) l ++ blk n ns (k + 1) h ∧ k + 1 ≤ (nd ns l).p ∧ k + 1 ≤ (nd ns h).p ∧ l < ns.length ∧ h < ns.length ∧ fn n ns x a = if a k then fn n ns h a else fn n ns l a := by
      intro x hkx hx hkn
      rcases Nat.lt_or_ge k (nd ns x).p with hlt | hge
      · exact ⟨x, x, blk_later w hx hlt, hlt, hlt, hx, hx, by split <;> rfl⟩
      · have hp : (nd ns x).p = k := by omega
        have h2 := w.nonconst (show (nd ns x).p < n by omega)
        exact ⟨(nd ns x).l, (nd ns x).h, by have := blk_node w h2 hx; rw [hp] at this; exact this, by have := w.lp x h2 hx; omega, by have := w.hp x h2 hx; omega, w.ll x h2 hx, w.hl x h2 hx, by rw [fn_node w a h2 hx, hp]⟩
    rcases Nat.lt_or_ge k n with hkn | hkn
    · obtain ⟨m', rfl⟩ : ∃ m', m = m' + 1 := ⟨m - 1, by omega⟩
      obtain ⟨l1, h1, e1, a1, b1, c1, d1, f1⟩ := half i hki hi hkn
      obtain ⟨l2, h2, e2, a2, b2, c2, d2, f2⟩ := half j hkj hj hkn
      rw [e1, e2] at h
      obtain ⟨g1, g2⟩ := List.append_inj h (len _ _)
      rw [f1, f2, blk_inj w m' (k + 1) h1 h2 (by omega) b1 b2 d1 d2 g2 a, blk_inj w m' (k + 1) l1 l2 (by omega) a1 a2 c1 c2 g1 a]
    · obtain rfl : k = n := by omega
      have hc : ∀ x, k ≤ (nd ns x).p → x < ns.length → x < 2 := fun x h hx => by
        rcases Nat.lt_or_ge x 2 with h2 | h2
        · exact h2
        · have := w.pl x h2 hx; omega
      rw [blk_end w (hc i hki hi), blk_end w (hc j hkj hj)] at h
      unfold fn
      rw [ev_const _ _ _ (hc i hki hi), ev_const _ _ _ (hc j hkj hj)]
      simpa using h
theorem blk_eq {n : Nat} {ns : List N3} (w : WF n ns) {k i j : Nat} (hki : k ≤ (nd ns i).p) (hkj : k ≤ (nd ns j).p) (hi : i < ns.length) (hj : j < ns.length) : blk n ns k i = blk n ns k j ↔ i = j :=
  ⟨fun h => w.eq hi hj (blk_inj w (n - k) k i j (Nat.le_refl _) hki hkj hi hj h), fun h => by rw [h]⟩
inductive Rch (ns : List N3) (i : Nat) : Nat → Prop
  | refl : Rch ns i i
  | low {j : Nat} : Rch ns i j → 2 ≤ j → Rch ns i (nd ns j).l
  | high {j : Nat} : Rch ns i j → 2 ≤ j → Rch ns i (nd ns j).h
theorem Rch.lt {n : Nat} {ns : List N3} (w : WF n ns) {i j : Nat} (hi : i < ns.length) (h : Rch ns i j) : j < ns.length := by
  induction h with
  | refl => exact hi
  | low _ h2 ih => exact w.ll _ h2 ih
  | high _ h2 ih => exact w.hl _ h2 ih
theorem Rch.trans {ns : List N3} {i j k : Nat} (h : Rch ns i j) (g : Rch ns j k) : Rch ns i k := by
  induction g with
  | refl => exact h
  | low _ h2 ih => exact .low ih h2
  | high _ h2 ih => exact .high ih h2
def lvl (n : Nat) (ns : List N3) (i : Nat) : Nat → List Nat
  | 0 => [i]
  | k + 1 => (lvl n ns i k).flatMap fun j => if (nd ns j).p = k then [(nd ns j).l, (nd ns j).h] else [j, j]
theorem lvl_ok {n : Nat} {ns : List N3} (w : WF n ns) {i : Nat} (hi : i < ns.length) : ∀ k, k ≤ n → ∀ j ∈ lvl n ns i k, j < ns.length ∧ k ≤ (nd ns j).p ∧ Rch ns i j
  | 0, _, j, hj => by
    rw [List.mem_singleton.1 hj]; exact ⟨hi, Nat.zero_le _, .refl⟩
  | k + 1, hk, j, hj => by
    obtain ⟨x, hx, hj⟩ := List.mem_flatMap.1 hj
    obtain ⟨h1, h2, h3⟩ := lvl_ok w hi k (by omega) x hx
    split at hj
    · rename_i hp
      have h4 := w.nonconst (show (nd ns x).p < n by omega)
      rcases List.mem_cons.1 hj with rfl | hj
      · exact ⟨w.ll x h4 h1, by have := w.lp x h4 h1; omega, .low h3 h4⟩
      · rw [List.mem_singleton.1 hj]
        exact ⟨w.hl x h4 h1, by have := w.hp x h4 h1; omega, .high h3 h4⟩
    · have : j = x := by simpa using hj
      subst this
      exact ⟨h1, by omega, h3⟩
theorem lvl_rch {n : Nat} {ns : List N3} (w : WF n ns) {i j : Nat} (hi : i < ns.length) (h : Rch ns i j) : ∀ k, k ≤ (nd ns j).p → k ≤ n → (∃ x ∈ lvl n ns i k, Rch ns x j) := by
  intro k
  induction k with
  | zero => intro _ _; exact ⟨i, List.mem_singleton_self i, h⟩
  | succ k ih =>
    intro hk hn
    obtain ⟨x, hx, hr⟩ := ih (by omega) (by omega)
    obtain ⟨h1, h2, h3⟩ := lvl_ok w hi k (by omega) x hx
    by_cases hp : (nd ns x).p = k
    · have h4 := w.nonconst (show (nd ns x).p < n by omega)
      -- x is not j: the way goes over one of its parts
      have key : j = x ∨ Rch ns (nd ns x).l j ∨ Rch ns (nd ns x).h j := by
        clear hk ih h
        induction hr with
        | refl => exact .inl rfl
        | low hr h2 ih =>
          rcases ih with e | e | e
          · rw [e]; exact .inr (.inl .refl)
          · exact .inr (.inl (.low e h2))
          · exact .inr (.inr (.low e h2))
        | high hr h2 ih =>
          rcases ih with e | e | e
          · rw [e]; exact .inr (.inr .refl)
          · exact .inr (.inl (.high e h2))
          · exact .inr (.inr (.high e h2))
      rcases key with e | e | e
      · subst e; omega
      · exact ⟨_, List.mem_flatMap.2 ⟨x, hx, by rw [if_pos hp]; simp⟩, e⟩
      · exact ⟨_, List.mem_flatMap.2 ⟨x, hx, by rw [if_pos hp]; simp⟩, e⟩
    · exact ⟨x, List.mem_flatMap.2 ⟨x, hx, by rw [if_neg hp]; simp⟩, hr⟩
theorem rch_p {n : Nat} {ns : List N3} (w : WF n ns) {i j : Nat} (hi : i < ns.length) (h : Rch ns i j) : i = j ∨ (2 ≤ i ∧ (nd ns i).p < (nd ns j).p) := by
  induction h with
  | refl => exact .inl rfl
  | low hr h2 ih =>
    have h3 := w.lp _ h2 (hr.lt w hi)
    rcases ih with e | ⟨e1, e2⟩
    · subst e; exact .inr ⟨h2, h3⟩
    · exact .inr ⟨e1, by omega⟩
  | high hr h2 ih =>
    have h3 := w.hp _ h2 (hr.lt w hi)
    rcases ih with e | ⟨e1, e2⟩
    · subst e; exact .inr ⟨h2, h3⟩
    · exact .inr ⟨e1, by omega⟩
theorem lvl_iff {n : Nat} {ns : List N3} (w : WF n ns) {i j k : Nat} (hi : i < ns.length) (hk : k < n) : (j ∈ lvl n ns i k ∧ (nd ns j).p = k) ↔ (Rch ns i j ∧ 2 ≤ j ∧ (nd ns j).p = k) := by
  constructor
  · rintro ⟨h1, h2⟩
    obtain ⟨h3, h4, h5⟩ := lvl_ok w hi k (by omega) j h1
    exact ⟨h5, w.nonconst (by omega), h2⟩
  · rintro ⟨h1, h2, h3⟩
    obtain ⟨x, hx, hr⟩ := lvl_rch w hi h1 k (by omega) (by omega)
    obtain ⟨h4, h5, _⟩ := lvl_ok w hi k (by omega) x hx
    rcases rch_p w h4 hr with e | ⟨_, e⟩
    · subst e; exact ⟨hx, h3⟩
    · omega
theorem flatMap_cong {α β : Type} {l : List α} {f g : α → List β} (h : ∀ x ∈ l, f x = g x) : l.flatMap f = l.flatMap g := by
  induction l with
  | nil => rfl
  | cons x l ih => rw [List.flatMap_cons, List.flatMap_cons, h x (by simp), ih fun y hy => h y (by simp [hy])]
theorem tab_lvl {n : Nat} {ns : List N3} (w : WF n ns) {i : Nat} (hi : i < ns.length) : ∀ k, k ≤ n → tab n ns i = (lvl n ns i k).flatMap (blk n ns k)
  | 0, _ => by simp [lvl, tab]
  | k + 1, hk => by
    rw [tab_lvl w hi k (by omega), lvl, List.flatMap_assoc]
    refine flatMap_cong fun j hj => ?_
    obtain ⟨h1, h2, _⟩ := lvl_ok w hi k (by omega) j hj
    split
    · rename_i hp
      have h4 := w.nonconst (show (nd ns j).p < n by omega)
      have := blk_node w h4 h1
      rw [hp] at this
      rw [this]; simp
    · rw [blk_later w h1 (by omega)]; simp
end Go.Proofs.Ytbhgahjeocnfcaa
namespace Go.Proofs.Ytbhgahjeocnfcaa
open Go Go.Cx Go.RowKit
set_option linter.unusedVariables false
set_option linter.unusedSimpArgs false
set_option maxHeartbeats 4000000
attribute [local irreducible] J JC thenK blockK loopK roundK drawK retK QW Qt pel List.set Calls
open Go.Maps
set_option maxRecDepth 8000
attribute [local irreducible] JE Br eK0 eK3 brK pc
def evBo (b : Bool) : Value := .bool b
structure Vis (ns : List N3) (out out' : List Nat) (r : Nat) : Prop where
  sub : ∀ x ∈ out, x ∈ out'
  has : r < 2 ∨ r ∈ out'
  new : ∀ x ∈ out', x ∈ out ∨ (2 ≤ x ∧ Rch ns r x)
  cl : ∀ x ∈ out', x ∈ out ∨ (((nd ns x).l < 2 ∨ (nd ns x).l ∈ out') ∧ ((nd ns x).h < 2 ∨ (nd ns x).h ∈ out'))
def seenL (out : List Nat) : List (Int × Bool) := (0, true) :: (1, true) :: out.map fun x : Nat => ((x : Int), true)
theorem seen_get (out : List Nat) (b : Nat) : mget (seenL out) (b : Int) = if b < 2 ∨ b ∈ out then some true else none := by
  have h2 : ∀ l : List Nat, mget (l.map fun x : Nat => ((x : Int), true)) (b : Int) = if b ∈ l then some true else none := by
    intro l
    induction l with
    | nil => rfl
    | cons x l ih =>
      unfold mget at ih ⊢
      rw [List.map_cons, List.find?_cons]
      by_cases hx : x = b
      · subst hx; simp
      · have h3 : ¬ ((x : Int) = (b : Int)) := by omega
        have h4 : ¬ (b = x) := fun e => hx e.symm
        simp only [h3, decide_false, List.mem_cons, h4, false_or]
        exact ih
  have h0 := h2 out
  unfold seenL
  unfold mget at h0 ⊢
  rw [List.find?_cons, List.find?_cons]
  by_cases e0 : b = 0
  · subst e0; simp
  · by_cases e1 : b = 1
    · subst e1; simp
    · have h3 : ¬ ((0 : Int) = (b : Int)) := by omega
      have h4 : ¬ ((1 : Int) = (b : Int)) := by omega
      have h5 : ¬ b < 2 := by omega
      simp only [h3, h4, decide_false, h5, false_or]
      exact h0
theorem seen_put {out : List Nat} {b : Nat} (h : ¬ (b < 2 ∨ b ∈ out)) : mput (seenL out) (b : Int) true = seenL (out ++ [b]) := by
  rw [mput_new true (mget_out (by rw [seen_get, if_neg h]))]
  unfold seenL
  simp
theorem nodup_sub_len : ∀ (l m : List Nat), l.Nodup → (∀ x ∈ l, x ∈ m) → l.length ≤ m.length
  | [], _, _, _ => Nat.zero_le _
  | x :: l, m, hn, hs => by
    obtain ⟨h1, h2⟩ := List.nodup_cons.1 hn
    obtain ⟨s, t, rfl⟩ := List.append_of_mem (hs x (by simp))
    have := nodup_sub_len l (s ++ t) h2 fun y hy => by
      have h3 := hs y (by simp [hy])
      rcases List.mem_append.1 h3 with h4 | h4
      · exact List.mem_append_left _ h4
      · rcases List.mem_cons.1 h4 with h5 | h5
        · subst h5; exact absurd hy h1
        · exact List.mem_append_right _ h5
    simp only [List.length_append, List.length_cons] at this ⊢
    omega
theorem nodup_len {l : List Nat} {m : Nat} (hn : l.Nodup) (h : ∀ x ∈ l, x < m) : l.length ≤ m := by
  have := nodup_sub_len l (List.range m) hn fun x hx => List.mem_range.2 (h x hx)
  rwa [List.length_range] at this
theorem Vis.join {ns : List N3} {out o1 o2 : List Nat} {b : Nat} (h2 : 2 ≤ b) (v1 : Vis ns (out ++ [b]) o1 (nd ns b).l) (v2 : Vis ns o1 o2 (nd ns b).h) : Vis ns out o2 b := by
  have hb : b ∈ o2 := v2.sub _ (v1.sub _ (List.mem_append_right _ (List.mem_singleton_self _)))
  refine ⟨fun x hx => v2.sub _ (v1.sub _ (List.mem_append_left _ hx)), .inr hb, fun x hx => ?_, fun x hx => ?_⟩
  · rcases v2.new x hx with h | ⟨g1, g2⟩
    · rcases v1.new x h with h | ⟨g1, g2⟩
      · rcases List.mem_append.1 h with h | h
        · exact .inl h
        · rw [List.mem_singleton.1 h]; exact .inr ⟨h2, .refl⟩
      · exact .inr ⟨g1, (Rch.low .refl h2).trans g2⟩
    · exact .inr ⟨g1, (Rch.high .refl h2).trans g2⟩
  · rcases v2.cl x hx with h | h
    · rcases v1.cl x h with h | ⟨h3, h4⟩
      · rcases List.mem_append.1 h with h | h
        · exact .inl h
        · rw [List.mem_singleton.1 h]
          exact .inr ⟨v1.has.imp id (v2.sub _), v2.has⟩
      · exact .inr ⟨h3.imp id (v2.sub _), h4.imp id (v2.sub _)⟩
    · exact .inr h
theorem Vis.all {ns : List N3} {o : List Nat} {b : Nat} (v : Vis ns [] o b) (x : Nat) : x ∈ o ↔ (2 ≤ x ∧ Rch ns b x) := by
  constructor
  · intro hx
    rcases v.new x hx with h | h
    · cases h
    · exact h
  · rintro ⟨h2, hr⟩
    have key : x < 2 ∨ x ∈ o := by
      clear h2
      induction hr with
      | refl => exact v.has
      | low _ g2 ih =>
        rcases ih with g | g
        · omega
        · rcases v.cl _ g with g | g
          · cases g
          · exact g.1
      | high _ g2 ih =>
        rcases ih with g | g
        · omega
        · rcases v.cl _ g with g | g
          · cases g
          · exact g.2
    exact key.resolve_left (by omega)
theorem eVisit : Entr Try.prog 119 := Entr.of Try.func119 rfl rfl
theorem eBelow : Entr Try.prog 65 := Entr.of Try.func65 rfl rfl
theorem eSize : Entr Try.prog 20 := Entr.of Try.func20 rfl rfl
def natI (l : List Nat) : List Int := l.map fun x : Nat => (x : Int)
def mapO (b : Nat) : Obj := .cells ⟨[.map (some b)]⟩ 114 (0, 0)
def outO (a : Option Addr) (l c : Nat) : Obj := .cells ⟨[.slice a l c]⟩ 28 (0, 0)
def fnV (c5 c6 c7 c2 : Nat) : Obj := .cells ⟨[.func (.func 119) ⟨[]⟩ ⟨[.pointer (some ⟨c5, 0, none⟩), .pointer (some ⟨c6, 0, none⟩), .pointer (some ⟨c7, 0, none⟩), .pointer (some ⟨c2, 0, none⟩)]⟩]⟩ 161 (0, 0)
theorem visit_any {n : Nat} {K : KS} {s : SS} (so : SOk n K s) (b0 c5 c6 c7 c2 bm : Nat) : ∀ (m b : Nat), n - (nd s.ns b).p = m → b < s.ns.length → ∀ (out : List Nat) (ao : Option Addr) (co : Nat) (hO hM : Heap), out.Nodup → (∀ x ∈ out, x < s.ns.length) →
    OwT encI 1 3 ao co (natI out) hO → MapT Try.prog 3 ekI evBo (seenL out) bm hM →
    ∀ {w0 w : World} {R : Heap} {L : List Heap}, H w0 R ([(c6, outO ao out.length co)] :: hO :: hM :: L) w → Rd R L c5 (mapO bm) → Rd R L c7 (fnV c5 c6 c7 c2) → Rd R L c2 (ptrS b0) → Rd R L b0 (stO K s.an s.ns.length s.cn) → RdH R L s.hN →
    Calls Try.prog 119 #[.int .i64 (b : Int), .pointer (some ⟨c5, 0, none⟩), .pointer (some ⟨c6, 0, none⟩), .pointer (some ⟨c7, 0, none⟩), .pointer (some ⟨c2, 0, none⟩)] w fun e w' => ∃ v L', e = .returned v ∧ H w0 R L' w' ∧ ∃ out' ao' co' hO' hM', v = .tuple #[] ∧ L' = [(c6, outO ao' out'.length co')] :: hO' :: hM' :: L ∧ out'.Nodup ∧ (∀ x ∈ out', x < s.ns.length) ∧ OwT encI 1 3 ao' co' (natI out') hO' ∧ MapT Try.prog 3 ekI evBo (seenL out') bm hM' ∧ Vis s.ns out out' b := by
  intro m
  induction m using Nat.strongRecOn with
  | ind m ih =>
  intro b hm hb out ao co hO hM nod rng oo mp w0 w R L hw r5 r7 r2 rb rn
  have sm := so.sm
  have r5' := r5
  have r7' := r7
  have r2' := r2
  have rb' := rb
  unfold mapO at r5'
  unfold fnV at r7'
  unfold ptrS at r2'
  unfold stO at rb'
  have hsl := so.ow.sl
  have hkey := keyI (b : Int) (by omega)
  have hget := seen_get out b
  by_cases hin : b < 2 ∨ b ∈ out
  · rw [if_pos hin] at hget
    refine calls_in Try.func119 Try.ntmps119 rfl rfl (hw) ?_
    unfold outO
    repeat' first
      | (refine J.isJ ?_; first | (first | (refine J.o 4 ?_; first | refine J.lR hΓ ?_ (hr := r5'.tl.tl.tl)) | (refine J.o 9 ?_; refine J.lk (a := (b : Int)) keyedI ekI_inj mp (by first | exact RdH.hd | exact RdH.hd.tl | exact RdH.hd.tl.tl | exact RdH.hd.tl.tl.tl | exact RdH.hd.tl.tl.tl.tl | exact RdH.hd.tl.tl.tl.tl.tl | exact RdH.hd.tl.tl.tl.tl.tl.tl | exact RdH.hd.tl.tl.tl.tl.tl.tl.tl | exact RdH.old (fun _ hh => hh) | assumption) hkey hΓ ?_; rw [hget])) | (first | (refine J.o 0 ?_; refine J.ev' hΓ ?_) | refine J.nil ?_ | (refine J.o 4 ?_; first | refine J.lT default hΓ ?_ | refine J.lR hΓ ?_) | (refine J.o 3 ?_; first | refine J.iJ hΓ ?_ | refine J.fP hΓ ?_ | refine J.ev' hΓ ?_) | (refine J.o 5 ?_; first | refine J.t2 hΓ ?_) | (refine J.o 9 ?_; refine J.bl hΓ (fun _ => ?_)) | (refine J.o 10 ?_; refine J.ev' hΓ ?_) | (refine J.o 11 ?_; refine J.ev' hΓ ?_)))
      | (first | refine JC.seq ?_ | refine JC.region ?_ | refine JC.ret ?_ | refine JC.skip ?_ | refine thenK.nn ?_ | refine thenK.r ?_ | refine JC.condT rfl ?_ | refine JC.condF rfl ?_ | refine drawK.nn ?_)
      | (fail)
      | fail
    all_goals first | (exfalso; omega) | skip
    all_goals first | refine ret0 rfl (fun w1 hw => ⟨_, _, rfl, hw, out, ao, co, hO, hM, rfl, rfl, nod, rng, oo, mp, ⟨fun x hx => hx, hin, fun x hx => .inl hx, fun x hx => .inl hx⟩⟩) | refine ret0n rfl (fun w1 hw => ⟨_, _, rfl, hw, out, ao, co, hO, hM, rfl, rfl, nod, rng, oo, mp, ⟨fun x hx => hx, hin, fun x hx => .inl hx, fun x hx => .inl hx⟩⟩)
  · rw [if_neg hin] at hget
    have hb2 : 2 ≤ b := by omega
    have hlen : (natI out).length = out.length := by unfold natI; rw [List.length_map]
    have hlen2 : (natI out ++ [(b : Int)]).length = out.length + 1 := by rw [List.length_append, hlen]; rfl
    have ho128 : out.length ≤ 1048576 := Nat.le_trans (nodup_len nod rng) sm
    refine calls_in Try.func119 Try.ntmps119 rfl rfl (hw) ?_
    unfold outO
    repeat' first
      | (refine J.isJ ?_; first | (first | (refine J.o 4 ?_; first | refine J.lR hΓ ?_ (hr := r5'.tl.tl.tl) | refine J.lR hΓ ?_ (hr := Rd.hd.tl)) | (refine J.o 9 ?_; refine J.lk (a := (b : Int)) keyedI ekI_inj mp (by first | exact RdH.hd | exact RdH.hd.tl | exact RdH.hd.tl.tl | exact RdH.hd.tl.tl.tl | exact RdH.hd.tl.tl.tl.tl | exact RdH.hd.tl.tl.tl.tl.tl | exact RdH.hd.tl.tl.tl.tl.tl.tl | exact RdH.hd.tl.tl.tl.tl.tl.tl.tl | exact RdH.old (fun _ hh => hh) | assumption) hkey hΓ ?_; rw [hget]) | (refine J.o 9 ?_; refine J.perm br2 ?_; refine J.mup (a := (b : Int)) (ev := evBo) true keyedI ekI_inj mp hkey hΓ (fun h3 mp3 => ?_)) | ((refine J.o 9 ?_; first | (first | (refine J.ap1 (enc := encI) [(b : Int)] hΓ (fun a2 k2 h2 o2 => ?_)) | (refine J.perm (br1.cons _) ?_; refine J.ap1 (enc := encI) [(b : Int)] hΓ (fun a2 k2 h2 o2 => ?_)) | (refine J.perm (br2.cons _) ?_; refine J.ap1 (enc := encI) [(b : Int)] hΓ (fun a2 k2 h2 o2 => ?_)) | (refine J.perm (br3.cons _) ?_; refine J.ap1 (enc := encI) [(b : Int)] hΓ (fun a2 k2 h2 o2 => ?_)) | (refine J.perm (br4.cons _) ?_; refine J.ap1 (enc := encI) [(b : Int)] hΓ (fun a2 k2 h2 o2 => ?_)) | (refine J.perm (br5.cons _) ?_; refine J.ap1 (enc := encI) [(b : Int)] hΓ (fun a2 k2 h2 o2 => ?_))) | (refine J.perm br1 ?_; first | (refine J.ap1 (enc := encI) [(b : Int)] hΓ (fun a2 k2 h2 o2 => ?_)) | (refine J.perm (br1.cons _) ?_; refine J.ap1 (enc := encI) [(b : Int)] hΓ (fun a2 k2 h2 o2 => ?_)) | (refine J.perm (br2.cons _) ?_; refine J.ap1 (enc := encI) [(b : Int)] hΓ (fun a2 k2 h2 o2 => ?_)) | (refine J.perm (br3.cons _) ?_; refine J.ap1 (enc := encI) [(b : Int)] hΓ (fun a2 k2 h2 o2 => ?_)) | (refine J.perm (br4.cons _) ?_; refine J.ap1 (enc := encI) [(b : Int)] hΓ (fun a2 k2 h2 o2 => ?_)) | (refine J.perm (br5.cons _) ?_; refine J.ap1 (enc := encI) [(b : Int)] hΓ (fun a2 k2 h2 o2 => ?_))) | (refine J.perm br2 ?_; first | (refine J.ap1 (enc := encI) [(b : Int)] hΓ (fun a2 k2 h2 o2 => ?_)) | (refine J.perm (br1.cons _) ?_; refine J.ap1 (enc := encI) [(b : Int)] hΓ (fun a2 k2 h2 o2 => ?_)) | (refine J.perm (br2.cons _) ?_; refine J.ap1 (enc := encI) [(b : Int)] hΓ (fun a2 k2 h2 o2 => ?_)) | (refine J.perm (br3.cons _) ?_; refine J.ap1 (enc := encI) [(b : Int)] hΓ (fun a2 k2 h2 o2 => ?_)) | (refine J.perm (br4.cons _) ?_; refine J.ap1 (enc := encI) [(b : Int)] hΓ (fun a2 k2 h2 o2 => ?_)) | (refine J.perm (br5.cons _) ?_; refine J.ap1 (enc := encI) [(b : Int)] hΓ (fun a2 k2 h2 o2 => ?_)))); rw [hlen2])) | (first | (refine J.o 0 ?_; refine J.ev' hΓ ?_) | refine J.nil ?_ | (refine J.o 4 ?_; first | refine J.lT default hΓ ?_ | refine J.lR hΓ ?_) | (refine J.o 3 ?_; first | refine J.iJ hΓ ?_ | refine J.fP hΓ ?_ | refine J.ev' hΓ ?_) | (refine J.o 5 ?_; first | refine J.t2 hΓ ?_) | (refine J.o 9 ?_; refine J.bl hΓ (fun _ => ?_)) | (refine J.o 10 ?_; refine J.ev' hΓ ?_) | (refine J.o 11 ?_; refine J.ev' hΓ ?_)))
      | (first | refine JC.seq ?_ | refine JC.region ?_ | refine JC.ret ?_ | refine JC.skip ?_ | refine thenK.nn ?_ | refine thenK.r ?_ | refine JC.condT rfl ?_ | refine JC.condF rfl ?_ | refine drawK.nn ?_)
      | (fail)
      | fail
    rw [seen_put hin] at mp3
    have hnat : natI out ++ [(b : Int)] = natI (out ++ [b]) := by unfold natI; rw [List.map_append]; rfl
    rw [hnat] at o2
    have hpb := so.wf.pl b hb2 hb
    have hlp := so.wf.lp b hb2 hb
    have hhp := so.wf.hp b hb2 hb
    have hll := so.wf.ll b hb2 hb
    have hlh := so.wf.hl b hb2 hb
    have hl1 : (out ++ [b]).length = out.length + 1 := by simp
    have nod1 : (out ++ [b]).Nodup := by
      rw [List.nodup_append]
      refine ⟨nod, by simp, fun x hx y hy => ?_⟩
      rw [List.mem_singleton.1 hy]
      intro e; subst e
      exact hin (.inr hx)
    have rng1 : ∀ x ∈ out ++ [b], x < s.ns.length := fun x hx => by
      rcases List.mem_append.1 hx with h | h
      · exact rng x h
      · rw [List.mem_singleton.1 h]; exact hb
    repeat' first
      | (refine J.isJ ?_; first | (first | (refine J.o 4 ?_; first | refine J.lR hΓ ?_ (hr := r7'.tl.tl.tl) | refine J.lR hΓ ?_ (hr := r2'.tl.tl.tl) | refine J.lR hΓ ?_ (hr := rb'.tl.tl.tl) | refine J.lT default hΓ ?_ (hs := hsl) (hr := rn.tl.tl.tl))) | (first | (refine J.o 0 ?_; refine J.ev' hΓ ?_) | refine J.nil ?_ | (refine J.o 4 ?_; first | refine J.lT default hΓ ?_ | refine J.lR hΓ ?_) | (refine J.o 3 ?_; first | refine J.iJ hΓ ?_ | refine J.fP hΓ ?_ | refine J.ev' hΓ ?_) | (refine J.o 5 ?_; first | refine J.t2 hΓ ?_) | (refine J.o 9 ?_; refine J.bl hΓ (fun _ => ?_)) | (refine J.o 10 ?_; refine J.ev' hΓ ?_) | (refine J.o 11 ?_; refine J.ev' hΓ ?_)))
      | (first | refine JC.seq ?_ | refine JC.region ?_ | refine JC.ret ?_ | refine JC.skip ?_ | refine thenK.nn ?_ | refine thenK.r ?_ | refine JC.condT rfl ?_ | refine JC.condF rfl ?_ | refine drawK.nn ?_)
      | ((refine JC.drawO [(1,0),(1,1),(0,2),(0,3),(1,4),(0,5),(0,6),(0,7),(1,8),(2,9)] (by kernel_rfl) (by kernel_rfl) ?_))
      | fail
    refine J.isJ ?_
    refine J.o 9 ?_
    refine J.callvx eVisit rfl rfl rfl (fun w hw => ih _ (by omega) (nd s.ns b).l rfl hll (out ++ [b]) a2 k2 h2 h3 nod1 rng1 o2 mp3 (by rw [hl1]; exact hw.perm br2) r5 r7 r2 rb rn) ?_
    rintro _ _ ⟨out1, a3, k3, hO1, hM1, rfl, rfl, nod2, rng2, oo1, mp4, vis1⟩
    unfold outO
    repeat' first
      | (refine J.isJ ?_; first | (first | (refine J.o 4 ?_; first | refine J.lR hΓ ?_ (hr := r7'.tl.tl.tl) | refine J.lR hΓ ?_ (hr := r2'.tl.tl.tl) | refine J.lR hΓ ?_ (hr := rb'.tl.tl.tl) | refine J.lT default hΓ ?_ (hs := hsl) (hr := rn.tl.tl.tl))) | (first | (refine J.o 0 ?_; refine J.ev' hΓ ?_) | refine J.nil ?_ | (refine J.o 4 ?_; first | refine J.lT default hΓ ?_ | refine J.lR hΓ ?_) | (refine J.o 3 ?_; first | refine J.iJ hΓ ?_ | refine J.fP hΓ ?_ | refine J.ev' hΓ ?_) | (refine J.o 5 ?_; first | refine J.t2 hΓ ?_) | (refine J.o 9 ?_; refine J.bl hΓ (fun _ => ?_)) | (refine J.o 10 ?_; refine J.ev' hΓ ?_) | (refine J.o 11 ?_; refine J.ev' hΓ ?_)))
      | (first | refine JC.seq ?_ | refine JC.region ?_ | refine JC.ret ?_ | refine JC.skip ?_ | refine thenK.nn ?_ | refine thenK.r ?_ | refine JC.condT rfl ?_ | refine JC.condF rfl ?_ | refine drawK.nn ?_)
      | ((refine JC.drawO [(1,0),(1,1),(0,2),(0,3),(1,4),(0,5),(0,6),(0,7),(1,8),(2,9)] (by kernel_rfl) (by kernel_rfl) ?_))
      | fail
    refine J.isJ ?_
    refine J.o 9 ?_
    refine J.callvx eVisit rfl rfl rfl (fun w hw => ih _ (by omega) (nd s.ns b).h rfl hlh out1 a3 k3 hO1 hM1 nod2 rng2 oo1 mp4 hw r5 r7 r2 rb rn) ?_
    rintro _ _ ⟨out2, a4, k4, hO2, hM2, rfl, rfl, nod3, rng3, oo2, mp5, vis2⟩
    unfold outO
    repeat' first
      | (refine J.isJ ?_; first | (fail) | (first | (refine J.o 0 ?_; refine J.ev' hΓ ?_) | refine J.nil ?_ | (refine J.o 4 ?_; first | refine J.lT default hΓ ?_ | refine J.lR hΓ ?_) | (refine J.o 3 ?_; first | refine J.iJ hΓ ?_ | refine J.fP hΓ ?_ | refine J.ev' hΓ ?_) | (refine J.o 5 ?_; first | refine J.t2 hΓ ?_) | (refine J.o 9 ?_; refine J.bl hΓ (fun _ => ?_)) | (refine J.o 10 ?_; refine J.ev' hΓ ?_) | (refine J.o 11 ?_; refine J.ev' hΓ ?_)))
      | (first | refine JC.seq ?_ | refine JC.region ?_ | refine JC.ret ?_ | refine JC.skip ?_ | refine thenK.nn ?_ | refine thenK.r ?_ | refine JC.condT rfl ?_ | refine JC.condF rfl ?_ | refine drawK.nn ?_)
      | (fail)
      | fail
    all_goals first | refine ret0 rfl (fun w1 hw => ⟨_, _, rfl, hw, out2, a4, k4, hO2, hM2, rfl, rfl, nod3, rng3, oo2, mp5, Vis.join hb2 vis1 vis2⟩) | refine ret0n rfl (fun w1 hw => ⟨_, _, rfl, hw, out2, a4, k4, hO2, hM2, rfl, rfl, nod3, rng3, oo2, mp5, Vis.join hb2 vis1 vis2⟩)
end Go.Proofs.Ytbhgahjeocnfcaa
namespace Go.Proofs
open Go.Shelf
def Try.lays125_ren : Go.Shelf.Ren := ⟨fun | 125 => 142 | 128 => 162 | 129 => 163 | n => n, fun | 46 => 91 | 3 => 3 | 51 => 124 | 53 => 51 | 4 => 4 | 5 => 5 | 9 => 9 | n => n, fun | n => n⟩
theorem Try.lays125 : Go.Proofs.Lays.n125 Try.prog Try.lays125_ren := {
  mixed := by kernel_rfl
  f125 := Try.func142.trans (congrArg some (by kernel_rfl))
  f128 := Try.func162.trans (congrArg some (by kernel_rfl))
  f129 := Try.func163.trans (congrArg some (by kernel_rfl))
  t3 := Try.underlying3
  a3 := Try.isAgg3
  z3 := Try.sizeOf3
  v3 := Try.zeroValue3
  t4 := Try.underlying4
  a4 := Try.isAgg4
  z4 := Try.sizeOf4
  v4 := Try.zeroValue4
  t5 := Try.underlying5
  a5 := Try.isAgg5
  z5 := Try.sizeOf5
  v5 := Try.zeroValue5
  t9 := Try.underlying9
  a9 := Try.isAgg9
  z9 := Try.sizeOf9
  v9 := Try.zeroValue9
  t46 := Try.underlying91
  a46 := Try.isAgg91
  z46 := Try.sizeOf91
  v46 := Try.zeroValue91
  t51 := Try.underlying124
  a51 := Try.isAgg124
  z51 := Try.sizeOf124
  v51 := Try.zeroValue124
  t53 := Try.underlying51
  a53 := Try.isAgg51
  z53 := Try.sizeOf51
  v53 := Try.zeroValue51 }
theorem Try.bits_Len (x : Int) (w : World) (h0 : 0 ≤ x) (h1 : x ≤ 18446744073709551615) :
    Calls Try.prog 142 #[.int .u64 x] w fun e w' => e = .returned (.int .i64 (Lib.bitLen x.toNat)) ∧ w' = w := Any.bits_Len Try.lays125 x w h0 h1
def Try.lays189_ren : Go.Shelf.Ren := ⟨fun | 189 => 120 | 125 => 142 | 257 => 145 | 128 => 162 | 129 => 163 | 294 => 168 | 295 => 169 | 296 => 170 | 297 => 171 | 298 => 172 | 299 => 173 | 216 => 174 | 300 => 175 | 301 => 176 | 328 => 186 | 329 => 180 | 330 => 181 | 331 => 187 | 332 => 188 | 215 => 189 | 343 => 192 | n => n, fun | 28 => 28 | 3 => 3 | 46 => 91 | 0 => 0 | 51 => 124 | 53 => 51 | 4 => 4 | 183 => 195 | 182 => 194 | 131 => 77 | 5 => 5 | 9 => 9 | 218 => 208 | 222 => 212 | 228 => 217 | 229 => 218 | n => n, fun | n => n⟩
theorem Try.lays189 : Go.Proofs.Lays.n189 Try.prog Try.lays189_ren := {
  mixed := by kernel_rfl
  f125 := Try.func142.trans (congrArg some (by kernel_rfl))
  f128 := Try.func162.trans (congrArg some (by kernel_rfl))
  f129 := Try.func163.trans (congrArg some (by kernel_rfl))
  f189 := Try.func120.trans (congrArg some (by kernel_rfl))
  f215 := Try.func189.trans (congrArg some (by kernel_rfl))
  f216 := Try.func174.trans (congrArg some (by kernel_rfl))
  f257 := Try.func145.trans (congrArg some (by kernel_rfl))
  f294 := Try.func168.trans (congrArg some (by kernel_rfl))
  f295 := Try.func169.trans (congrArg some (by kernel_rfl))
  f296 := Try.func170.trans (congrArg some (by kernel_rfl))
  f297 := Try.func171.trans (congrArg some (by kernel_rfl))
  f298 := Try.func172.trans (congrArg some (by kernel_rfl))
  f299 := Try.func173.trans (congrArg some (by kernel_rfl))
  f300 := Try.func175.trans (congrArg some (by kernel_rfl))
  f301 := Try.func176.trans (congrArg some (by kernel_rfl))
  f328 := Try.func186.trans (congrArg some (by kernel_rfl))
  f329 := Try.func180.trans (congrArg some (by kernel_rfl))
  f330 := Try.func181.trans (congrArg some (by kernel_rfl))
  f331 := Try.func187.trans (congrArg some (by kernel_rfl))
  f332 := Try.func188.trans (congrArg some (by kernel_rfl))
  f343 := Try.func192.trans (congrArg some (by kernel_rfl))
  t0 := Try.underlying0
  a0 := Try.isAgg0
  z0 := Try.sizeOf0
  v0 := Try.zeroValue0
  t3 := Try.underlying3
  a3 := Try.isAgg3
  z3 := Try.sizeOf3
  v3 := Try.zeroValue3
  t4 := Try.underlying4
  a4 := Try.isAgg4
  z4 := Try.sizeOf4
  v4 := Try.zeroValue4
  t5 := Try.underlying5
  a5 := Try.isAgg5
  z5 := Try.sizeOf5
  v5 := Try.zeroValue5
  t9 := Try.underlying9
  a9 := Try.isAgg9
  z9 := Try.sizeOf9
  v9 := Try.zeroValue9
  t28 := Try.underlying28
  a28 := Try.isAgg28
  z28 := Try.sizeOf28
  v28 := Try.zeroValue28
  t46 := Try.underlying91
  a46 := Try.isAgg91
  z46 := Try.sizeOf91
  v46 := Try.zeroValue91
  t51 := Try.underlying124
  a51 := Try.isAgg124
  z51 := Try.sizeOf124
  v51 := Try.zeroValue124
  t53 := Try.underlying51
  a53 := Try.isAgg51
  z53 := Try.sizeOf51
  v53 := Try.zeroValue51
  t131 := Try.underlying77
  a131 := Try.isAgg77
  z131 := Try.sizeOf77
  v131 := Try.zeroValue77
  t182 := Try.underlying194
  a182 := Try.isAgg194
  z182 := Try.sizeOf194
  v182 := Try.zeroValue194
  t183 := Try.underlying195
  a183 := Try.isAgg195
  z183 := Try.sizeOf195
  v183 := Try.zeroValue195
  t218 := Try.underlying208
  a218 := Try.isAgg208
  z218 := Try.sizeOf208
  v218 := Try.zeroValue208
  t222 := Try.underlying212
  a222 := Try.isAgg212
  z222 := Try.sizeOf212
  v222 := Try.zeroValue212
  t228 := Try.underlying217
  a228 := Try.isAgg217
  z228 := Try.sizeOf217
  v228 := Try.zeroValue217
  t229 := Try.underlying218
  a229 := Try.isAgg218
  z229 := Try.sizeOf218
  v229 := Try.zeroValue218 }
open Go.Sort Go.RowKit in
theorem Try.slices_Sort_int (blk off cap : Nat) (zs : List Int) (w : World) (hH : Holds (Value.int .i64) w blk off zs.toArray) (hblk : blk < w.heap.size) (hsz : zs.length < 4611686018427387904) :
    Calls Try.prog 120 #[.slice (some ⟨blk, off, none⟩) zs.length cap] w fun e w' =>
      e = .returned (.tuple #[]) ∧ ∃ n os, w' = grow (putRow (Value.int .i64) (Sort.ahead w n) blk off (zs.mergeSort fun x y => decide (x ≤ y)).toArray) os := Any.slices_Sort_int Try.lays189 blk off cap zs w hH hblk hsz
open Go.RowKit Go.Sort in
theorem Try.slices_Sort_int_none (p : Option Addr) (cap : Nat) (w : World) :
    Calls Try.prog 120 #[.slice p 0 cap] w fun e w' => e = .returned (.tuple #[]) ∧ w' = w := Any.slices_Sort_int_none Try.lays189 p cap w
def Try.laysSlH10_f164_ren : Go.Shelf.Ren := ⟨fun | 10 => 164 | 6 => 140 | n => n, fun | 22 => 28 | 23 => 3 | 25 => 152 | 3 => 3 | 4 => 4 | 0 => 0 | n => n, fun | n => n⟩
theorem Try.laysSlH10_f164 : Go.Proofs.SlLaysH.n10 Try.prog Try.laysSlH10_f164_ren := {
  mixed := by kernel_rfl
  f6 := ⟨Try.f140.name, by decide, Try.func140.trans (congrArg some (by kernel_rfl))⟩
  f10 := ⟨Try.f164.name, by decide, Try.func164.trans (congrArg some (by kernel_rfl))⟩
  t0 := Try.underlying0
  a0 := Try.isAgg0
  z0 := Try.sizeOf0
  v0 := Try.zeroValue0
  t3 := Try.underlying3
  a3 := Try.isAgg3
  z3 := Try.sizeOf3
  v3 := Try.zeroValue3
  t4 := Try.underlying4
  a4 := Try.isAgg4
  z4 := Try.sizeOf4
  v4 := Try.zeroValue4
  t22 := Try.underlying28
  a22 := Try.isAgg28
  z22 := Try.sizeOf28
  v22 := Try.zeroValue28
  a23 := Try.isAgg3
  z23 := Try.sizeOf3
  t25 := Try.underlying152
  a25 := Try.isAgg152
  z25 := Try.sizeOf152
  v25 := Try.zeroValue152 }
open Go.RowKit Go.Lib Go.Sort in
theorem Try.slices_DeleteFunc {α : Type} [Inhabited α] (enc : α → Value) (hO : OneCell enc) (p : α → Bool) (g : Nat) (lb : Array Value) (eg : ∀ args w, (callFunc g args).run Try.prog w = .ok (.enter g args) w) (zr : α) (v23 : ∀ w, (zeroValue 3).run Try.prog w = .ok (enc zr) w) (blk off cap : Nat) (d : Array α) (w : World) (hp : PredAt Try.prog g lb enc p w) (hpo : PredOver Try.prog g lb enc p blk off d.size w) (hH : Holds enc w blk off d) (hsz : d.size ≤ 9223372036854775807) (hcap : d.size ≤ cap) :
    Calls Try.prog 164 #[.slice (some ⟨blk, off, none⟩) d.size cap, .func (.func g) #[] lb] w fun e w' => e = .returned (.slice (some ⟨blk, off, none⟩) (d.toList.filter fun x => !p x).length cap) ∧ ∃ q, w' = putRow enc (Sort.ahead w q) blk off ((d.toList.filter fun x => !p x) ++ List.replicate (d.size - (d.toList.filter fun x => !p x).length) zr).toArray := AnyE.slices_DeleteFunc Try.laysSlH10_f164 enc hO p g lb eg zr v23 blk off cap d w hp hpo hH hsz hcap
end Go.Proofs
namespace Go.Proofs.Ytbhgahjeocnfcaa
open Go Go.Cx Go.RowKit
set_option linter.unusedVariables false
set_option linter.unusedSimpArgs false
set_option maxHeartbeats 4000000
attribute [local irreducible] J JC thenK blockK loopK roundK drawK retK QW Qt pel List.set Calls
open Go.Maps Go.Lib
set_option maxRecDepth 8000
attribute [local irreducible] JE Br eK0 eK3 brK pc
def insS : List Int → Int → List Int
  | [], x => [x]
  | y :: l, x => if x < y then x :: y :: l else y :: insS l x
def sortS (l : List Int) : List Int := l.foldl insS []
theorem insS_perm : ∀ (l : List Int) (x : Int), (insS l x).Perm (x :: l)
  | [], x => .refl _
  | y :: l, x => by
    unfold insS
    split
    · exact .refl _
    · exact ((insS_perm l x).cons y).trans (.swap _ _ _)
theorem insS_sorted : ∀ (l : List Int) (x : Int), l.Pairwise (· ≤ ·) → (insS l x).Pairwise (· ≤ ·)
  | [], x, _ => by simp [insS]
  | y :: l, x, h => by
    unfold insS
    rw [List.pairwise_cons] at h
    split
    · rename_i hxy
      refine List.pairwise_cons.2 ⟨fun z hz => ?_, List.pairwise_cons.2 h⟩
      rcases List.mem_cons.1 hz with rfl | hz
      · omega
      · have := h.1 z hz; omega
    · rename_i hxy
      refine List.pairwise_cons.2 ⟨fun z hz => ?_, insS_sorted l x h.2⟩
      have := (insS_perm l x).mem_iff.1 hz
      rcases List.mem_cons.1 this with rfl | hz
      · omega
      · exact h.1 z hz
theorem sortS_go : ∀ (l acc : List Int), acc.Pairwise (· ≤ ·) → (l.foldl insS acc).Perm (acc ++ l) ∧ (l.foldl insS acc).Pairwise (· ≤ ·)
  | [], acc, h => ⟨by simp, h⟩
  | x :: l, acc, h => by
    have ih := sortS_go l (insS acc x) (insS_sorted acc x h)
    refine ⟨ih.1.trans ?_, ih.2⟩
    refine ((insS_perm acc x).append_right l).trans ?_
    exact (List.perm_middle).symm
theorem sortS_perm (l : List Int) : (sortS l).Perm l := by simpa [sortS] using (sortS_go l [] List.Pairwise.nil).1
theorem sortS_sorted (l : List Int) : (sortS l).Pairwise (· ≤ ·) := (sortS_go l [] List.Pairwise.nil).2
theorem sort_eq : ∀ (a b : List Int), a.Perm b → a.Pairwise (· ≤ ·) → b.Pairwise (· ≤ ·) → a = b
  | [], b, h, _, _ => (List.Perm.nil_eq h)
  | x :: a, [], h, _, _ => absurd h.length_eq (by simp)
  | x :: a, y :: b, h, h1, h2 => by
    rw [List.pairwise_cons] at h1 h2
    have e : x = y := by
      have hx := h.mem_iff.1 (List.mem_cons_self (a := x) (l := a))
      have hy := h.mem_iff.2 (List.mem_cons_self (a := y) (l := b))
      rcases List.mem_cons.1 hx with hx | hx
      · exact hx
      · rcases List.mem_cons.1 hy with hy | hy
        · exact hy.symm
        · have := h1.1 y hy; have := h2.1 x hx; omega
    subst e
    rw [sort_eq a b (List.Perm.cons_inv h) h1.2 h2.2]
theorem sort_ms (l : List Int) : l.mergeSort (fun x y => decide (x ≤ y)) = sortS l := by
  refine sort_eq _ _ ((List.mergeSort_perm l _).trans (sortS_perm l).symm) ?_ (sortS_sorted l)
  have := List.pairwise_mergeSort (le := fun x y : Int => decide (x ≤ y)) (fun a b c h1 h2 => by simp only [decide_eq_true_eq] at *; omega) (fun a b => by simp only [Bool.or_eq_true, decide_eq_true_eq]; omega) l
  exact this.imp (fun h => by simpa using h)
theorem sortS_len (l : List Int) : (sortS l).length = l.length := (sortS_perm l).length_eq
theorem eSort : Entr Try.prog 120 := Entr.of Try.func120 rfl rfl
theorem intsFlat (l : List Int) : l.flatMap encI = l.map (Value.int .i64) := by
  induction l with
  | nil => rfl
  | cons x l ih => rw [List.flatMap_cons, ih]; rfl
theorem sort_own {ao : Option Addr} {co : Nat} {l : List Int} {hO : Heap} (oo : OwT encI 1 3 ao co l hO) (hl : l.length ≤ 10000000000000) {w0 w : World} {R : Heap} {L : List Heap} (hw : H w0 R (hO :: L) w) :
    Calls Try.prog 120 #[.slice ao l.length co] w fun e w' => ∃ v' L', e = .returned v' ∧ H w0 R L' w' ∧ ∃ hO', v' = .tuple #[] ∧ L' = hO' :: L ∧ OwT encI 1 3 ao co (sortS l) hO' := by
  by_cases h0 : l.length = 0
  · have hn : l = [] := List.eq_nil_of_length_eq_zero h0
    subst hn
    refine (Try.slices_Sort_int_none ao co w).mono ?_
    rintro e w' ⟨rfl, rfl⟩
    exact ⟨_, _, rfl, hw, hO, rfl, rfl, oo⟩
  rcases oo.row with ⟨rfl, rfl, rfl, rfl⟩ | ⟨g, cs, rfl, rfl, h1, h2, h3⟩
  · exact absurd rfl h0
  have hb : w.heap[g]? = some (.cells ⟨cs⟩ 3 (0, 0)) := hw.rd Rd.hd
  have hgl : g < w.heap.size := (Array.getElem?_eq_some_iff.1 hb).1
  rw [intsFlat, Nat.mul_one] at h3
  have hcell : ∀ j (hj : j < l.length), cs[j]? = some (.int .i64 l[j]) := fun j hj => by
    have : (cs.take l.length)[j]? = (l.map (Value.int .i64))[j]? := by rw [h3]
    rw [List.getElem?_take_of_lt hj, List.getElem?_map, List.getElem?_eq_getElem hj] at this
    exact this
  have hH : Sort.Holds (Value.int .i64) w g 0 l.toArray := fun j hj => by
    have hj' : j < l.length := by simpa using hj
    constructor
    · simp [World.cell?, hb, hcell j hj', hj']
    · simp [World.frozen?, hb]
  refine (Try.slices_Sort_int g 0 co l w hH hgl (by omega)).mono ?_
  rintro e w' ⟨rfl, n, os, rfl⟩
  rw [sort_ms]
  have hsl := sortS_len l
  have hnew : Sort.putCells (Value.int .i64) 0 (sortS l).toArray ⟨cs⟩ = ⟨(sortS l).map (Value.int .i64) ++ cs.drop l.length⟩ := by
    unfold Sort.putCells
    apply Array.ext
    · simp; omega
    · intro i hi1 hi2
      simp only [Array.getElem_mapIdx, Nat.zero_le, true_and, Nat.zero_add, List.size_toArray, Nat.sub_zero]
      by_cases hi : i < (sortS l).length
      · rw [if_pos hi]
        simp [hi]
      · rw [if_neg hi]
        simp only [List.getElem_toArray]
        rw [List.getElem_append_right (by simpa using hi)]
        simp only [List.length_map, List.getElem_drop]
        congr 1
        omega
  refine ⟨_, [(g, .cells ⟨(sortS l).map (Value.int .i64) ++ cs.drop l.length⟩ 3 (0, 0))] :: L, rfl, ?_, _, rfl, rfl, ⟨oo.len, .inr ⟨g, _, rfl, rfl, ?_, by omega, ?_⟩⟩⟩
  · have h5 : H w0 R ([(g, .cells ⟨(sortS l).map (Value.int .i64) ++ cs.drop l.length⟩ 3 (0, 0))] :: L) (Sort.putRow (Value.int .i64) (Sort.ahead w n) g 0 (sortS l).toArray) := by
      refine hw.write (o' := .cells ⟨(sortS l).map (Value.int .i64) ++ cs.drop l.length⟩ 3 (0, 0)) rfl rfl rfl ?_ ?_ ?_
      · simp [Sort.putRow, Sort.mapBlock, Sort.ahead]
      · show (w.heap.modify g _)[g]? = _
        rw [Array.getElem?_modify, if_pos rfl, hb]
        show some (Obj.cells (Sort.putCells _ _ _ _) _ _) = _
        rw [hnew]
      · intro k hk
        show (w.heap.modify g _)[k]? = _
        rw [Array.getElem?_modify, if_neg (Ne.symm hk)]
    exact h5.grow (Lib.below_grow _ _ (Nat.le_refl _) 0 os)
  · simp; omega
  · rw [intsFlat, Nat.mul_one, List.take_left' (by simp)]
structure Bel (ns : List N3) (a : Nat) (l : List Int) : Prop where
  nodup : l.Nodup
  sorted : l.Pairwise (· ≤ ·)
  mem : ∀ x : Int, x ∈ l ↔ ∃ j : Nat, x = (j : Int) ∧ 2 ≤ j ∧ Rch ns a j
theorem Bel.of {ns : List N3} {a : Nat} {o : List Nat} (hn : o.Nodup) (v : Vis ns [] o a) : Bel ns a (sortS (natI o)) := by
  have hp := sortS_perm (natI o)
  have hn2 : (natI o).Nodup := by
    unfold natI
    rw [List.Nodup, List.pairwise_map]
    exact hn.imp fun h e => h (by omega)
  refine ⟨hp.nodup_iff.2 hn2, sortS_sorted _, fun x => ?_⟩
  rw [hp.mem_iff]
  unfold natI
  rw [List.mem_map]
  constructor
  · rintro ⟨j, hj, rfl⟩
    exact ⟨j, rfl, (v.all j).1 hj⟩
  · rintro ⟨j, rfl, h⟩
    exact ⟨j, (v.all j).2 h, rfl⟩
theorem below_any {n : Nat} {K : KS} {s : SS} (so : SOk n K s) (b0 a : Nat) (ha : a < s.ns.length) {w0 w : World} {R : Heap} {L : List Heap} (rb : Rd R L b0 (stO K s.an s.ns.length s.cn)) (rn : RdH R L s.hN) (hw : H w0 R L w) :
    Calls Try.prog 65 #[.pointer (some ⟨b0, 0, none⟩), .int .i64 (a : Int)] w fun e w' => ∃ v L', e = .returned v ∧ H w0 R L' w' ∧ ∃ ao co l hO, v = .slice ao l.length co ∧ L' = hO :: L ∧ OwT encI 1 3 ao co l hO ∧ Bel s.ns a l := by
  have sm := so.sm
  refine calls_in Try.func65 Try.ntmps65 rfl rfl (hw) ?_
  repeat' first
    | (refine J.isJ ?_; first | (first | (refine J.o 6 ?_; refine J.bx (fun c2 => ?_)) | (refine J.o 9 ?_; first | refine J.mkm (fun bm => ?_) | refine J.ins (ev := evBo) true keyedI ekI_inj (MapT.nil _) (keyI 0 (by omega)) hΓ (fun h1 mp1 => ?_) | refine J.ins (ev := evBo) true keyedI ekI_inj mp1 (keyI 1 (by omega)) hΓ (fun h2 mp2 => ?_) | (refine J.callvx eVisit rfl rfl rfl (fun w hw => visit_any so b0 c5 c6 c7 c2 bm _ a rfl ha [] none 0 [] h2 List.nodup_nil (fun x hx => by cases hx) (OwT.nil (fun _ => rfl)) mp2 (L := [(c7, fnV c5 c6 c7 c2)] :: [(c5, mapO bm)] :: [(c2, ptrS b0)] :: L) ((H.sel (l := [_, _, _, _, _]) (M := L) hw [1, 3, 0, 2, 4]).nilF.perm br1) Rd.hd.tl Rd.hd Rd.hd.tl.tl rb.tl.tl.tl rn.tl.tl.tl) ?_; rintro _ _ ⟨o1, a1, k1, hO1, hM1, rfl, rfl, nod1, rng1, oo1, mp3, vis1⟩; unfold outO; have hln : o1.length ≤ 1048576 := Nat.le_trans (nodup_len nod1 rng1) sm; have hnl : (natI o1).length = o1.length := List.length_map _; rw [← hnl])) | (refine J.o 7 ?_; first | refine J.al (t := 114) hΓ (fun c5 => ?_) | refine J.al (t := 28) hΓ (fun c6 => ?_) | refine J.al (t := 161) hΓ (fun c7 => ?_)) | (refine J.o 14 ?_; refine J.mfV [.pointer (some ⟨c5, 0, none⟩), .pointer (some ⟨c6, 0, none⟩), .pointer (some ⟨c7, 0, none⟩), .pointer (some ⟨c2, 0, none⟩)] hΓ ?_) | (refine J.fc 120 ?_; refine J.perm br1 ?_; refine J.callx eSort rfl rfl (fun w hw => sort_own oo1 (by omega) hw) ?_; rintro _ _ ⟨hO2, rfl, rfl, oo2⟩)) | (first | (refine J.o 0 ?_; refine J.ev' hΓ ?_) | refine J.nil ?_ | (refine J.o 4 ?_; first | refine J.lR hΓ ?_) | (refine J.o 3 ?_; first | refine J.ev' hΓ ?_) | (refine J.o 5 ?_; first | refine J.t0 hΓ ?_) | (refine J.o 6 ?_; refine J.bx (fun _ => ?_)) | (refine J.o 7 ?_; refine J.al hΓ (fun _ => ?_)) | (refine J.o 10 ?_; refine J.ev' hΓ ?_) | (refine J.o 11 ?_; refine J.ev' hΓ ?_)))
    | (first | refine JC.seq ?_ | refine JC.region ?_ | refine JC.ret ?_ | refine thenK.nn ?_)
    | (fail)
    | fail
  all_goals first | (exfalso; omega) | skip
  rw [← sortS_len]
  refine ret1f rfl rfl rfl (fun w1 hw => ⟨_, _, rfl, H.sel (l := [_, _, _, _, _, _]) (M := L) hw [0], a1, k1, sortS (natI o1), hO2, rfl, rfl, oo2, Bel.of nod1 vis1⟩)
theorem Size_any {n : Nat} {K : KS} {s : SS} (so : SOk n K s) (b0 a : Nat) (ha : a < s.ns.length) {w0 w : World} {R : Heap} {L : List Heap} (rb : Rd R L b0 (stO K s.an s.ns.length s.cn)) (rn : RdH R L s.hN) (hw : H w0 R L w) :
    Calls Try.prog 20 #[.pointer (some ⟨b0, 0, none⟩), .int .i64 (a : Int)] w fun e w' => ∃ v L', e = .returned v ∧ H w0 R L' w' ∧ ∃ l, v = .tuple #[.int .i64 ((l.length : Nat) : Int), .int .i64 0] ∧ L' = L ∧ Bel s.ns a l := by
  have two := so.wf.two
  have cChk : ∀ L1 w1 b1, H w0 R L1 w1 → Rd R L1 b0 (stO K s.an s.ns.length s.cn) → Rd R L1 b1 (intO a) → Calls Try.prog 64 #[.pointer (some ⟨b0, 0, none⟩), .slice (some ⟨b1, 0, none⟩) 1 1] w1 fun e w' => e = .returned (.int .i64 0) ∧ Below w1.heap.size w1 w' := fun L1 w1 b1 hw hb hr => by
    have hc := chk_ok (m := s.ns.length) (l := [a]) (by simp only [List.mem_cons, List.not_mem_nil, or_false, forall_eq]; exact ha)
    have := check_any K b0 s.an s.cn s.ns.length two [(b0, stO K s.an s.ns.length s.cn), (b1, intO a)] List.mem_cons_self [(a : Int)] (some ⟨b1, 0, none⟩) 1 ((slArg b1 [(a : Int)] 3).sub fun y hy => List.mem_cons_of_mem _ hy) (by show 1 ≤ 1000; omega) w1 (holds2 (hw.rd hb) (holds2 (hw.rd hr) (Holds.nil _)))
    rw [show chkP s.ns.length [(a : Int)] = true from hc, if_pos rfl] at this
    exact this
  refine calls_in Try.func20 Try.ntmps20 rfl rfl (hw) ?_
  repeat' first
    | (refine J.isJ ?_; first | (first | (refine J.o 9 ?_; refine J.bl hΓ (fun b1 => ?_)) | (refine J.fc 64 ?_; refine J.call0 eCheck rfl rfl (fun w hw => cChk _ w _ hw rb.tl Rd.hd) ?_) | (refine J.fc 65 ?_; refine J.callx eBelow rfl rfl (fun w hw => below_any so b0 a ha rb.tl rn.tl hw) ?_; rintro _ _ ⟨ao, co, l, hO, rfl, rfl, oo, bel⟩)) | (first | (refine J.o 0 ?_; refine J.ev' hΓ ?_) | refine J.nil ?_ | (refine J.o 3 ?_; first | refine J.ev' hΓ ?_) | (refine J.o 9 ?_; refine J.bl hΓ (fun _ => ?_)) | (refine J.o 10 ?_; refine J.ev' hΓ ?_) | (refine J.o 11 ?_; refine J.ev' hΓ ?_)))
    | (first | refine JC.seq ?_ | refine JC.region ?_ | refine JC.ret ?_ | refine JC.skip ?_ | refine thenK.nn ?_ | refine JC.condF rfl ?_)
    | (fail)
    | fail
  all_goals first | (exfalso; omega) | skip
  refine ret2f rfl rfl rfl rfl rfl (fun w1 hw => ⟨_, _, rfl, hw.drop.drop, l, rfl, rfl, bel⟩)
end Go.Proofs.Ytbhgahjeocnfcaa
namespace Go.Proofs.Ytbhgahjeocnfcaa
open Go Go.Cx
set_option linter.unusedVariables false
set_option linter.unusedSimpArgs false
def stepB (half : Nat) (acc : List (List Bool)) (b : List Bool) : List (List Bool) := if b.take half = b.drop half ∨ b ∈ acc then acc else acc ++ [b]
def stepN (ns : List N3) (k : Nat) (acc : List Nat) (j : Nat) : List Nat := if (nd ns j).p ≠ k ∨ j ∈ acc then acc else acc ++ [j]
theorem blk_half {n : Nat} {ns : List N3} (w : WF n ns) {k j : Nat} (hk : k < n) (hp : k ≤ (nd ns j).p) (hj : j < ns.length) : ((blk n ns k j).take (2 ^ (n - k - 1)) = (blk n ns k j).drop (2 ^ (n - k - 1))) ↔ (nd ns j).p ≠ k := by
  have hl : ∀ x, (blk n ns (k + 1) x).length = 2 ^ (n - k - 1) := fun x => by rw [blk_len, Nat.sub_add_eq]
  rcases Nat.lt_or_ge k (nd ns j).p with h | h
  · rw [blk_later w hj h, List.take_left' (hl j), List.drop_left' (hl j)]
    exact ⟨fun _ => by omega, fun _ => rfl⟩
  · have e : (nd ns j).p = k := by omega
    have h2 := w.nonconst (show (nd ns j).p < n by omega)
    have hb := blk_node w h2 hj
    rw [e] at hb
    have hlp := w.lp j h2 hj
    have hhp := w.hp j h2 hj
    rw [hb, List.take_left' (hl _), List.drop_left' (hl _), blk_eq w (by omega) (by omega) (w.ll j h2 hj) (w.hl j h2 hj)]
    exact ⟨fun h => (w.ne j h2 hj h).elim, fun h => (h e).elim⟩
theorem fold_BN {n : Nat} {ns : List N3} (w : WF n ns) {k : Nat} (hk : k < n) : ∀ (js acc : List Nat), (∀ j ∈ js, j < ns.length ∧ k ≤ (nd ns j).p) → (∀ j ∈ acc, j < ns.length ∧ k ≤ (nd ns j).p) →
    (js.map (blk n ns k)).foldl (stepB (2 ^ (n - k - 1))) (acc.map (blk n ns k)) = (js.foldl (stepN ns k) acc).map (blk n ns k)
  | [], acc, _, _ => rfl
  | j :: js, acc, h1, h2 => by
    obtain ⟨hj, hp⟩ := h1 j (by simp)
    have hmem : blk n ns k j ∈ acc.map (blk n ns k) ↔ j ∈ acc := by
      rw [List.mem_map]
      constructor
      · rintro ⟨x, hx, he⟩
        obtain ⟨g1, g2⟩ := h2 x hx
        rw [← (blk_eq w g2 hp g1 hj).1 he]; exact hx
      · intro h; exact ⟨j, h, rfl⟩
    have hc := blk_half w hk hp hj
    have hs : stepB (2 ^ (n - k - 1)) (acc.map (blk n ns k)) (blk n ns k j) = (stepN ns k acc j).map (blk n ns k) := by
      unfold stepB stepN
      by_cases h : (nd ns j).p ≠ k ∨ j ∈ acc
      · rw [if_pos h, if_pos (h.imp hc.2 hmem.2)]
      · rw [if_neg h, if_neg (fun g => h (g.imp hc.1 hmem.1)), List.map_append]; rfl
    rw [List.map_cons, List.foldl_cons, List.foldl_cons, hs]
    refine fold_BN w hk js _ (fun x hx => h1 x (by simp [hx])) (fun x hx => ?_)
    unfold stepN at hx
    split at hx
    · exact h2 x hx
    · rcases List.mem_append.1 hx with hx | hx
      · exact h2 x hx
      · rw [List.mem_singleton.1 hx]; exact ⟨hj, hp⟩
theorem foldN_mem (ns : List N3) (k : Nat) : ∀ (js acc : List Nat) (x : Nat), x ∈ js.foldl (stepN ns k) acc ↔ x ∈ acc ∨ (x ∈ js ∧ (nd ns x).p = k)
  | [], acc, x => by simp
  | j :: js, acc, x => by
    rw [List.foldl_cons, foldN_mem ns k js]
    unfold stepN
    split
    · rename_i h
      constructor
      · rintro (h1 | ⟨h1, h2⟩)
        · exact .inl h1
        · exact .inr ⟨by simp [h1], h2⟩
      · rintro (h1 | ⟨h1, h2⟩)
        · exact .inl h1
        · rcases List.mem_cons.1 h1 with rfl | h1
          · rcases h with h | h
            · exact absurd h2 h
            · exact .inl h
          · exact .inr ⟨h1, h2⟩
    · rename_i h
      have hp : (nd ns j).p = k := Classical.byContradiction fun g => h (.inl g)
      rw [List.mem_append, List.mem_singleton]
      constructor
      · rintro ((h1 | rfl) | ⟨h1, h2⟩)
        · exact .inl h1
        · exact .inr ⟨by simp, hp⟩
        · exact .inr ⟨by simp [h1], h2⟩
      · rintro (h1 | ⟨h1, h2⟩)
        · exact .inl (.inl h1)
        · rcases List.mem_cons.1 h1 with rfl | h1
          · exact .inl (.inr rfl)
          · exact .inr ⟨h1, h2⟩
theorem foldN_nodup (ns : List N3) (k : Nat) : ∀ (js acc : List Nat), acc.Nodup → (js.foldl (stepN ns k) acc).Nodup
  | [], acc, h => h
  | j :: js, acc, h => by
    rw [List.foldl_cons]
    refine foldN_nodup ns k js _ ?_
    unfold stepN
    split
    · exact h
    · rename_i hn
      rw [List.nodup_append]
      refine ⟨h, by simp, fun x hx y hy => ?_⟩
      rw [List.mem_singleton.1 hy]
      intro e; subst e
      exact hn (.inr hx)
def chunks (m c : Nat) (t : List Bool) : List (List Bool) := (List.range c).map fun q => (t.drop (q * m)).take m
theorem chunks_flat (m : Nat) : ∀ (L : List (List Bool)), (∀ b ∈ L, b.length = m) → chunks m L.length L.flatten = L
  | [], _ => rfl
  | b :: L, h => by
    have ih := chunks_flat m L fun x hx => h x (by simp [hx])
    have hb := h b (by simp)
    unfold chunks at ih ⊢
    rw [List.length_cons, List.range_succ_eq_map, List.map_cons, List.map_map, List.flatten_cons]
    congr 1
    · rw [Nat.zero_mul, List.drop_zero, ← hb, List.take_left']; rfl
    · conv => rhs; rw [← ih]
      refine List.map_congr_left fun q _ => ?_
      show ((b ++ L.flatten).drop ((q + 1) * m)).take m = _
      rw [show (q + 1) * m = b.length + q * m by rw [hb, Nat.add_mul]; omega, List.drop_append]
      rw [List.drop_of_length_le (by omega), List.nil_append]
      congr 2; omega
def lvC (n k : Nat) (t : List Bool) : Nat := ((chunks (2 ^ (n - k)) (2 ^ k) t).foldl (stepB (2 ^ (n - k - 1))) []).length
def sizeT (n : Nat) (t : List Bool) : Nat := ((List.range n).map fun k => lvC n k t).sum
theorem lvl_len (n : Nat) (ns : List N3) (i : Nat) : ∀ k, (lvl n ns i k).length = 2 ^ k
  | 0 => rfl
  | k + 1 => by
    have : ∀ l : List Nat, (l.flatMap fun j => if (nd ns j).p = k then [(nd ns j).l, (nd ns j).h] else [j, j]).length = 2 * l.length := fun l => by
      induction l with
      | nil => rfl
      | cons x l ih => rw [List.flatMap_cons, List.length_append, ih, List.length_cons]; split <;> simp <;> omega
    rw [lvl, this, lvl_len n ns i k, Nat.pow_succ, Nat.mul_comm]
theorem lvC_eq {n : Nat} {ns : List N3} (w : WF n ns) {i k : Nat} (hi : i < ns.length) (hk : k < n) : lvC n k (tab n ns i) = ((lvl n ns i k).foldl (stepN ns k) []).length := by
  have ht := tab_lvl w hi k (by omega)
  have hch := chunks_flat (2 ^ (n - k)) ((lvl n ns i k).map (blk n ns k)) (fun b hb => by
    obtain ⟨j, _, rfl⟩ := List.mem_map.1 hb; exact blk_len n ns k j)
  rw [List.length_map, lvl_len] at hch
  have hf : (lvl n ns i k).flatMap (blk n ns k) = ((lvl n ns i k).map (blk n ns k)).flatten := rfl
  unfold lvC
  rw [ht, hf, hch]
  have := fold_BN w hk (lvl n ns i k) [] (fun j hj => by obtain ⟨h1, h2, _⟩ := lvl_ok w hi k (by omega) j hj; exact ⟨h1, h2⟩) (fun j hj => by cases hj)
  rw [List.map_nil] at this
  rw [this, List.length_map]
def allN (n : Nat) (ns : List N3) (i : Nat) : Nat → List Nat
  | 0 => []
  | m + 1 => allN n ns i m ++ (lvl n ns i m).foldl (stepN ns m) []
theorem allN_mem {n : Nat} {ns : List N3} (w : WF n ns) {i : Nat} (hi : i < ns.length) : ∀ m, m ≤ n → ∀ j, j ∈ allN n ns i m ↔ (Rch ns i j ∧ 2 ≤ j ∧ (nd ns j).p < m)
  | 0, _, j => by simp [allN]
  | m + 1, hm, j => by
    rw [allN, List.mem_append, allN_mem w hi m (by omega), foldN_mem, lvl_iff w hi (by omega)]
    constructor
    · rintro (⟨h1, h2, h3⟩ | h | ⟨h1, h2, h3⟩)
      · exact ⟨h1, h2, by omega⟩
      · cases h
      · exact ⟨h1, h2, by omega⟩
    · rintro ⟨h1, h2, h3⟩
      rcases Nat.lt_or_ge (nd ns j).p m with h | h
      · exact .inl ⟨h1, h2, h⟩
      · exact .inr (.inr ⟨h1, h2, by omega⟩)
theorem allN_nodup {n : Nat} {ns : List N3} (w : WF n ns) {i : Nat} (hi : i < ns.length) : ∀ m, m ≤ n → (allN n ns i m).Nodup
  | 0, _ => List.nodup_nil
  | m + 1, hm => by
    rw [allN, List.nodup_append]
    refine ⟨allN_nodup w hi m (by omega), foldN_nodup ns m _ _ List.nodup_nil, fun x hx y hy e => ?_⟩
    subst e
    have h1 := ((allN_mem w hi m (by omega) x).1 hx).2.2
    rcases (foldN_mem ns m _ _ x).1 hy with h | ⟨_, h⟩
    · cases h
    · omega
theorem allN_len {n : Nat} {ns : List N3} (w : WF n ns) {i : Nat} (hi : i < ns.length) : ∀ m, m ≤ n → (allN n ns i m).length = ((List.range m).map fun k => lvC n k (tab n ns i)).sum
  | 0, _ => rfl
  | m + 1, hm => by
    rw [allN, List.length_append, allN_len w hi m (by omega), List.range_succ, List.map_append, List.sum_append, ← lvC_eq w hi (by omega)]
    simp
theorem nodup_sub {α : Type} : ∀ (l m : List α), l.Nodup → (∀ x ∈ l, x ∈ m) → l.length ≤ m.length
  | [], _, _, _ => Nat.zero_le _
  | x :: l, m, hn, hs => by
    obtain ⟨h1, h2⟩ := List.nodup_cons.1 hn
    obtain ⟨s, t, rfl⟩ := List.append_of_mem (hs x (by simp))
    have := nodup_sub l (s ++ t) h2 fun y hy => by
      have h3 := hs y (by simp [hy])
      rcases List.mem_append.1 h3 with h4 | h4
      · exact List.mem_append_left _ h4
      · rcases List.mem_cons.1 h4 with h5 | h5
        · subst h5; exact absurd hy h1
        · exact List.mem_append_right _ h5
    simp only [List.length_append, List.length_cons] at this ⊢
    omega
theorem size_eq {n : Nat} {ns : List N3} (w : WF n ns) {i : Nat} (hi : i < ns.length) {l : List Int} (hn : l.Nodup) (hm : ∀ x : Int, x ∈ l ↔ ∃ j : Nat, x = (j : Int) ∧ 2 ≤ j ∧ Rch ns i j) : l.length = sizeT n (tab n ns i) := by
  have h1 := allN_nodup w hi n (Nat.le_refl n)
  have h2 := allN_len w hi n (Nat.le_refl n)
  have h3 : ∀ j, j ∈ allN n ns i n ↔ (2 ≤ j ∧ Rch ns i j) := fun j => by
    rw [allN_mem w hi n (Nat.le_refl n)]
    constructor
    · rintro ⟨g1, g2, _⟩; exact ⟨g2, g1⟩
    · rintro ⟨g1, g2⟩; exact ⟨g2, g1, w.pl j g1 (g2.lt w hi)⟩
  have h4 : ((allN n ns i n).map fun j : Nat => (j : Int)).Nodup := by
    rw [List.Nodup, List.pairwise_map]
    exact h1.imp fun h e => h (by omega)
  unfold sizeT
  rw [← h2]
  have a1 := nodup_sub l ((allN n ns i n).map fun j : Nat => (j : Int)) hn fun x hx => by
    obtain ⟨j, rfl, g⟩ := (hm x).1 hx
    exact List.mem_map.2 ⟨j, (h3 j).2 g, rfl⟩
  have a2 := nodup_sub ((allN n ns i n).map fun j : Nat => (j : Int)) l h4 fun x hx => by
    obtain ⟨j, hj, rfl⟩ := List.mem_map.1 hx
    exact (hm _).2 ⟨j, rfl, (h3 j).1 hj⟩
  rw [List.length_map] at a1 a2
  omega
end Go.Proofs.Ytbhgahjeocnfcaa
namespace Go.Proofs.Ytbhgahjeocnfcaa
open Go Go.Cx Go.RowKit
set_option linter.unusedVariables false
set_option linter.unusedSimpArgs false
set_option maxHeartbeats 4000000
attribute [local irreducible] J JC thenK blockK loopK roundK drawK retK QW Qt pel List.set Calls
set_option maxRecDepth 8000
attribute [local irreducible] JE Br eK0 eK3 brK pc
def Sls {α : Type} (enc : α → List Value) (size : Nat) (e : TypeId) (ts : List α) (v : Value) (h : Heap) : Prop := ∃ a cap, v = .slice a ts.length cap ∧ OwT enc size e a cap ts h
theorem set_ext {a b : Nat × Nat} (ha : okS a) (hb : okS b) (h : ∀ u : Int, 1 ≤ u → u ≤ 128 → hasB a u = hasB b u) : a = b := by
  obtain ⟨a1, a2⟩ := a
  obtain ⟨b1, b2⟩ := b
  have big : ∀ (x : Nat) (i : Nat), x < 2 ^ 64 → 64 ≤ i → x.testBit i = false := fun x i hx hi => Nat.testBit_lt_two_pow (Nat.lt_of_lt_of_le hx (Nat.pow_le_pow_right (by omega) hi))
  congr 1
  · apply Nat.eq_of_testBit_eq
    intro i
    by_cases hi : i < 64
    · have := h ((i : Int) + 1) (by omega) (by omega)
      unfold hasB at this
      rw [if_pos (by omega), if_pos (by omega)] at this
      have e : ((i : Int) + 1 - 1).toNat = i := by omega
      rw [e] at this
      exact this
    · rw [big a1 i ha.1 (by omega), big b1 i hb.1 (by omega)]
  · apply Nat.eq_of_testBit_eq
    intro i
    by_cases hi : i < 64
    · have := h ((i : Int) + 65) (by omega) (by omega)
      unfold hasB at this
      rw [if_neg (by omega), if_pos (by omega), if_neg (by omega), if_pos (by omega)] at this
      have e : ((i : Int) + 65 - 65).toNat = i := by omega
      rw [e] at this
      exact this
    · rw [big a2 i ha.2 (by omega), big b2 i hb.2 (by omega)]
theorem ofS_has : ∀ (l : List Int) (s : Nat × Nat) (u : Int), hasB (l.foldl withS s) u = true ↔ (hasB s u = true ∨ (u ∈ l ∧ 1 ≤ u ∧ u ≤ 128))
  | [], s, u => by simp
  | x :: l, s, u => by
    rw [List.foldl_cons, ofS_has l]
    by_cases hx : 1 ≤ x ∧ x ≤ 128
    · rw [has_with s x u hx]
      constructor
      · rintro ((h | rfl) | ⟨h1, h2⟩)
        · exact .inl h
        · exact .inr ⟨by simp, hx⟩
        · exact .inr ⟨by simp [h1], h2⟩
      · rintro (h | ⟨h1, h2⟩)
        · exact .inl (.inl h)
        · rcases List.mem_cons.1 h1 with rfl | h1
          · exact .inl (.inr rfl)
          · exact .inr ⟨h1, h2⟩
    · have e1 : withS s x = s := by unfold withS; rw [if_neg (by omega), if_neg (by omega)]
      rw [e1]
      constructor
      · rintro (h | ⟨h1, h2⟩)
        · exact .inl h
        · exact .inr ⟨by simp [h1], h2⟩
      · rintro (h | ⟨h1, h2⟩)
        · exact .inl h
        · rcases List.mem_cons.1 h1 with rfl | h1
          · exact (hx h2).elim
          · exact .inr ⟨h1, h2⟩
instance (l : List Int) : Decidable (okOrd l) := by unfold okOrd; infer_instance
end Go.Proofs.Ytbhgahjeocnfcaa
namespace Go.Proofs.Ytbhgahjeocnfcaa
open Go Go.Cx Go.RowKit
set_option linter.unusedVariables false
set_option linter.unusedSimpArgs false
set_option maxHeartbeats 4000000
attribute [local irreducible] J JC thenK blockK loopK roundK drawK retK QW Qt pel List.set Calls
open Go.Maps Go.Lib
set_option maxRecDepth 8000
attribute [local irreducible] JE Br eK0 eK3 brK pc
theorem Adds.trans {n : Nat} {K : KS} {s s1 s2 : SS} {m1 m2 y1 y2 : Nat} (h : Adds n K s s1 m1 y1) (g : Adds n K s1 s2 m2 y2) : Adds n K s s2 (m1 + m2) y2 :=
  ⟨g.ok, h.ext.trans g.ext, by have := h.le; have := g.le; omega, g.lt⟩
theorem Adds.mono {n : Nat} {K : KS} {s s1 : SS} {m1 m2 y1 : Nat} (h : Adds n K s s1 m1 y1) (hm : m1 ≤ m2) : Adds n K s s1 m2 y1 :=
  ⟨h.ok, h.ext, by have := h.le; omega, h.lt⟩
theorem Adds.refl {n : Nat} {K : KS} {s : SS} (so : SOk n K s) {y : Nat} (hy : y < s.ns.length) : Adds n K s s 0 y := ⟨so, Ext.refl _, Nat.le_refl _, hy⟩
theorem Adds.old {n : Nat} {K : KS} {s s1 : SS} {m1 y1 y : Nat} (h : Adds n K s s1 m1 y1) (hy : y < s.ns.length) : y < s1.ns.length := Nat.lt_of_lt_of_le hy h.ext.le
theorem pow8 {n : Nat} (h : n ≤ 8) : 2 ^ n ≤ 256 := Nat.pow_le_pow_right (n := 2) (by omega) h
end Go.Proofs.Ytbhgahjeocnfcaa
namespace Go.Proofs.Ytbhgahjeocnfcaa
open Go Go.Cx Go.RowKit
set_option linter.unusedVariables false
set_option linter.unusedSimpArgs false
set_option maxHeartbeats 4000000
attribute [local irreducible] J JC thenK blockK loopK roundK drawK retK QW Qt pel List.set Calls
open Go.Maps Go.Lib
set_option maxRecDepth 8000
attribute [local irreducible] JE Br eK0 eK3 brK pc
structure HV where
  a : Option Addr
  c : Nat
  l : List Int
instance : Inhabited HV := ⟨⟨none, 0, []⟩⟩
def encHV (v : HV) : List Value := [.slice v.a v.l.length v.c]
structure LLR (a : Option Addr) (vs : List HV) (h : Heap) : Prop where
  o : SlT encHV 1 a vs h
  i : ∀ v, v ∈ vs → SlT encI 1 v.a v.l h
def varI (l : Int) : Int := if 1 ≤ l ∧ l ≤ 128 then l else if -128 ≤ l ∧ l ≤ -1 then -l else 0
def validB (l n : Int) : Bool := decide (l ≠ 0 ∧ -n ≤ l ∧ l ≤ n)
theorem eVarL : Entr Try.prog 59 := Entr.of Try.func59 rfl rfl
theorem eValid : Entr Try.prog 113 := Entr.of Try.func113 rfl rfl
theorem varL_any (l : Int) (w : World) : Calls Try.prog 59 #[.int .i64 l] w fun e w' => e = .returned (.int .i64 (varI l)) ∧ Below w.heap.size w w' := by
  refine calls_of_JC (R := []) Try.func59 Try.ntmps59 rfl rfl (Holds.nil _) ?_
  repeat' first
    | (refine J.isJ ?_; first | (fail) | (first | (refine J.o 0 ?_; refine J.ev' hΓ ?_) | refine J.nil ?_ | refine J.kd ?_ | (refine J.o 3 ?_; first | refine J.ev' hΓ ?_) | (refine J.o 1 ?_; first | refine J.ng ?_) | (refine J.o 10 ?_; refine J.ev' hΓ ?_) | (refine J.o 11 ?_; refine J.ev' hΓ ?_)) | ((fail_if_success refine J.wt ?_); refine J.gc rfl rfl (fun hc => ?_) (fun hc => ?_) <;> ((try simp only [decide_eq_true_eq, decide_eq_false_iff_not, beq_iff_eq, beq_eq_false_iff_ne, bne_iff_ne, bne_eq_false_iff_eq, Bool.not_eq_true', Bool.not_eq_false', Bool.not_eq_true, Bool.not_eq_false] at hc) <;> first | (first | (exact absurd rfl hc) | (exfalso; omega) | (exact absurd (hc.symm.trans (by assumption : _ = false)) (by decide)) | (exact absurd (hc.symm.trans (by assumption : _ = true)) (by decide))) | skip)))
    | (first | refine JC.seq ?_ | refine JC.region ?_ | refine JC.block ?_ | refine JC.ret ?_ | refine JC.skip ?_ | refine thenK.nn ?_ | refine thenK.r ?_ | refine blockK.nn ?_ | refine blockK.r ?_ | refine JC.condF rfl ?_ | (refine JC.cond rfl (fun hc => ?_) (fun hc => ?_) <;> ((try simp only [decide_eq_true_eq, decide_eq_false_iff_not, beq_iff_eq, beq_eq_false_iff_ne, bne_iff_ne, bne_eq_false_iff_eq, Bool.not_eq_true', Bool.not_eq_false', Bool.not_eq_true, Bool.not_eq_false] at hc) <;> first | (first | (exact absurd rfl hc) | (exfalso; omega) | (exact absurd (hc.symm.trans (by assumption : _ = false)) (by decide)) | (exact absurd (hc.symm.trans (by assumption : _ = true)) (by decide))) | skip)))
    | (fail)
    | fail
  all_goals first | (exfalso; omega) | skip
  all_goals (refine ret1f rfl rfl rfl (fun w1 hw => ⟨retI ?_, hw.below⟩))
  all_goals (clear hw; unfold varI; grind)
theorem valid_any (l n : Int) (hn : 0 ≤ n ∧ n ≤ 128) (w : World) : Calls Try.prog 113 #[.int .i64 l, .int .i64 n] w fun e w' => e = .returned (.bool (validB l n)) ∧ Below w.heap.size w w' := by
  refine calls_of_JC (R := []) Try.func113 Try.ntmps113 rfl rfl (Holds.nil _) ?_
  repeat' first
    | (refine J.isJ ?_; first | ((refine J.fc 59 ?_; refine J.call0 eVarL rfl rfl (fun w hw => varL_any l w) ?_)) | (first | (refine J.o 0 ?_; refine J.ev' hΓ ?_) | refine J.nil ?_ | refine J.kd ?_ | (refine J.o 3 ?_; first | refine J.ev' hΓ ?_) | (refine J.o 10 ?_; refine J.ev' hΓ ?_) | (refine J.o 11 ?_; refine J.ev' hΓ ?_)) | ((fail_if_success refine J.wt ?_); refine J.gc rfl rfl (fun hc => ?_) (fun hc => ?_) <;> ((try simp only [decide_eq_true_eq, decide_eq_false_iff_not, beq_iff_eq, beq_eq_false_iff_ne, bne_iff_ne, bne_eq_false_iff_eq, Bool.not_eq_true', Bool.not_eq_false', Bool.not_eq_true, Bool.not_eq_false] at hc) <;> first | (first | (exact absurd rfl hc) | (exfalso; omega) | (exact absurd (hc.symm.trans (by assumption : _ = false)) (by decide)) | (exact absurd (hc.symm.trans (by assumption : _ = true)) (by decide))) | skip)))
    | (first | refine JC.seq ?_ | refine JC.region ?_ | refine JC.ret ?_ | refine thenK.nn ?_)
    | (fail)
    | fail
  all_goals first | (exfalso; omega) | skip
  all_goals (refine ret1f rfl rfl rfl (fun w1 hw => ⟨retB ?_, hw.below⟩))
  all_goals (clear hw; unfold varI validB at *; grind)
def litsE (N : Int) : List Int → Int
  | [] => 0
  | l :: ls => if validB l N then litsE N ls else 1
def clsE (N : Int) : List (List Int) → Int
  | [] => 0
  | c :: cs => if 128 < c.length then 2 else if litsE N c = 0 then clsE N cs else 1
def thE (N : Int) (T : List (List Int)) : Int := if N < 0 ∨ 128 < N then 6 else if 4096 < T.length then 2 else clsE N T
theorem litsE_cons (N l : Int) (ls : List Int) : litsE N (l :: ls) = if validB l N then litsE N ls else 1 := rfl
theorem litsE_01 (N : Int) : ∀ l : List Int, litsE N l = 0 ∨ litsE N l = 1
  | [] => .inl rfl
  | l :: ls => by
    unfold litsE
    split
    · exact litsE_01 N ls
    · exact .inr rfl
theorem litsE_ok {N : Int} : ∀ {l : List Int}, litsE N l = 0 ↔ ∀ x ∈ l, x ≠ 0 ∧ -N ≤ x ∧ x ≤ N
  | [] => by simp [litsE]
  | x :: l => by
    unfold litsE
    by_cases h : validB x N = true
    · rw [if_pos h, litsE_ok (l := l)]
      unfold validB at h
      have := of_decide_eq_true h
      constructor
      · intro g y hy
        rcases List.mem_cons.1 hy with rfl | hy
        · exact this
        · exact g y hy
      · exact fun g y hy => g y (List.mem_cons_of_mem _ hy)
    · rw [if_neg h]
      constructor
      · intro g; cases g
      · intro g
        exact absurd (by unfold validB; exact decide_eq_true (g x List.mem_cons_self)) h
theorem clsE_ok {N : Int} : ∀ {T : List (List Int)}, clsE N T = 0 ↔ ∀ c ∈ T, c.length ≤ 128 ∧ ∀ x ∈ c, x ≠ 0 ∧ -N ≤ x ∧ x ≤ N
  | [] => by simp [clsE]
  | c :: T => by
    unfold clsE
    by_cases h1 : 128 < c.length
    · rw [if_pos h1]
      exact ⟨fun g => absurd g (by decide), fun g => by have := (g c List.mem_cons_self).1; omega⟩
    · rw [if_neg h1]
      by_cases h2 : litsE N c = 0
      · rw [if_pos h2, clsE_ok (T := T)]
        constructor
        · intro g y hy
          rcases List.mem_cons.1 hy with rfl | hy
          · exact ⟨by omega, litsE_ok.1 h2⟩
          · exact g y hy
        · exact fun g y hy => g y (List.mem_cons_of_mem _ hy)
      · rw [if_neg h2]
        exact ⟨fun g => absurd g (by decide), fun g => absurd (litsE_ok.2 (g c List.mem_cons_self).2) h2⟩
theorem thE_ok {N : Int} {T : List (List Int)} : thE N T = 0 ↔ (0 ≤ N ∧ N ≤ 128) ∧ T.length ≤ 4096 ∧ ∀ c ∈ T, c.length ≤ 128 ∧ ∀ x ∈ c, x ≠ 0 ∧ -N ≤ x ∧ x ≤ N := by
  unfold thE
  by_cases h1 : N < 0 ∨ 128 < N
  · rw [if_pos h1]; exact ⟨fun g => absurd g (by decide), fun g => by omega⟩
  · rw [if_neg h1]
    by_cases h2 : 4096 < T.length
    · rw [if_pos h2]; exact ⟨fun g => absurd g (by decide), fun g => by omega⟩
    · rw [if_neg h2, clsE_ok]
      exact ⟨fun g => ⟨by omega, by omega, g⟩, fun g => g.2.2⟩
theorem eTCheck : Entr Try.prog 53 := Entr.of Try.func53 rfl rfl
theorem tcheck_any (N : Int) (a : Option Addr) (cap : Nat) (vs : List HV) (h : Heap) (hr : LLR a vs h) (w : World) (hw : Holds h w) :
    Calls Try.prog 53 #[.agg ⟨[.int .i64 N, .slice a vs.length cap]⟩] w fun e w' => e = .returned (.int .i64 (thE N (vs.map (·.l)))) ∧ Below w.heap.size w w' := by
  have q0 : ∀ L, RdH h L h := fun L => RdH.old fun _ hh => hh
  obtain ⟨ho, hi⟩ := hr
  have hlen : (vs.map (·.l)).length = vs.length := List.length_map _
  by_cases hN : N < 0 ∨ 128 < N
  ·
    have e0 : thE N (vs.map (·.l)) = 6 := by unfold thE; rw [if_pos hN]
    rw [e0]
    refine calls_of_JC (R := h) Try.func53 Try.ntmps53 rfl rfl (hw) ?_
    repeat' first
      | (refine J.isJ ?_; first | ((refine J.o 6 ?_; refine J.bx (fun b1 => ?_))) | (first | (refine J.o 0 ?_; refine J.ev' hΓ ?_) | refine J.nil ?_ | refine J.kd ?_ | (refine J.o 4 ?_; first | refine J.lT default hΓ ?_ | refine J.lR hΓ ?_) | (refine J.o 3 ?_; first | refine J.iJ hΓ ?_ | refine J.ev' hΓ ?_) | (refine J.o 1 ?_; first | refine J.ad ?_) | (refine J.o 6 ?_; refine J.bx (fun _ => ?_)) | (refine J.o 10 ?_; refine J.ev' hΓ ?_) | (refine J.o 11 ?_; refine J.ev' hΓ ?_)) | ((fail_if_success refine J.wt ?_); refine J.gc rfl rfl (fun hc => ?_) (fun hc => ?_) <;> ((try simp only [decide_eq_true_eq, decide_eq_false_iff_not, beq_iff_eq, beq_eq_false_iff_ne, bne_iff_ne, bne_eq_false_iff_eq, Bool.not_eq_true', Bool.not_eq_false', Bool.not_eq_true, Bool.not_eq_false] at hc) <;> first | (first | (exact absurd rfl hc) | (exfalso; omega) | (exact absurd (hc.symm.trans (by assumption : _ = false)) (by decide)) | (exact absurd (hc.symm.trans (by assumption : _ = true)) (by decide))) | skip)))
      | (first | refine JC.seq ?_ | refine JC.region ?_ | refine JC.block ?_ | refine JC.ret ?_ | refine JC.exit ?_ | refine JC.skip ?_ | refine thenK.nn ?_ | refine thenK.r ?_ | refine thenK.x ?_ | refine blockK.nn ?_ | refine blockK.r ?_ | refine blockK.hit rfl ?_ | refine JC.condT rfl ?_ | refine JC.condF rfl ?_ | (refine JC.cond rfl (fun hc => ?_) (fun hc => ?_) <;> ((try simp only [decide_eq_true_eq, decide_eq_false_iff_not, beq_iff_eq, beq_eq_false_iff_ne, bne_iff_ne, bne_eq_false_iff_eq, Bool.not_eq_true', Bool.not_eq_false', Bool.not_eq_true, Bool.not_eq_false] at hc) <;> first | (first | (exact absurd rfl hc) | (exfalso; omega) | (exact absurd (hc.symm.trans (by assumption : _ = false)) (by decide)) | (exact absurd (hc.symm.trans (by assumption : _ = true)) (by decide))) | skip)) | refine loopK.r ?_ | refine loopK.x ?_)
      | (fail)
      | fail
    all_goals first | (exfalso; omega) | skip
    all_goals (refine ret1f rfl rfl rfl (fun w1 hw => ⟨rfl, hw.below⟩))
  by_cases hT : 4096 < vs.length
  ·
    have e0 : thE N (vs.map (·.l)) = 2 := by unfold thE; rw [if_neg hN, if_pos (by omega)]
    rw [e0]
    refine calls_of_JC (R := h) Try.func53 Try.ntmps53 rfl rfl (hw) ?_
    repeat' first
      | (refine J.isJ ?_; first | ((refine J.o 6 ?_; refine J.bx (fun b1 => ?_))) | (first | (refine J.o 0 ?_; refine J.ev' hΓ ?_) | refine J.nil ?_ | refine J.kd ?_ | (refine J.o 4 ?_; first | refine J.lT default hΓ ?_ | refine J.lR hΓ ?_) | (refine J.o 3 ?_; first | refine J.iJ hΓ ?_ | refine J.ev' hΓ ?_) | (refine J.o 1 ?_; first | refine J.ad ?_) | (refine J.o 6 ?_; refine J.bx (fun _ => ?_)) | (refine J.o 10 ?_; refine J.ev' hΓ ?_) | (refine J.o 11 ?_; refine J.ev' hΓ ?_)) | ((fail_if_success refine J.wt ?_); refine J.gc rfl rfl (fun hc => ?_) (fun hc => ?_) <;> ((try simp only [decide_eq_true_eq, decide_eq_false_iff_not, beq_iff_eq, beq_eq_false_iff_ne, bne_iff_ne, bne_eq_false_iff_eq, Bool.not_eq_true', Bool.not_eq_false', Bool.not_eq_true, Bool.not_eq_false] at hc) <;> first | (first | (exact absurd rfl hc) | (exfalso; omega) | (exact absurd (hc.symm.trans (by assumption : _ = false)) (by decide)) | (exact absurd (hc.symm.trans (by assumption : _ = true)) (by decide))) | skip)))
      | (first | refine JC.seq ?_ | refine JC.region ?_ | refine JC.block ?_ | refine JC.ret ?_ | refine JC.exit ?_ | refine JC.skip ?_ | refine thenK.nn ?_ | refine thenK.r ?_ | refine thenK.x ?_ | refine blockK.nn ?_ | refine blockK.r ?_ | refine blockK.hit rfl ?_ | refine JC.condT rfl ?_ | refine JC.condF rfl ?_ | (refine JC.cond rfl (fun hc => ?_) (fun hc => ?_) <;> ((try simp only [decide_eq_true_eq, decide_eq_false_iff_not, beq_iff_eq, beq_eq_false_iff_ne, bne_iff_ne, bne_eq_false_iff_eq, Bool.not_eq_true', Bool.not_eq_false', Bool.not_eq_true, Bool.not_eq_false] at hc) <;> first | (first | (exact absurd rfl hc) | (exfalso; omega) | (exact absurd (hc.symm.trans (by assumption : _ = false)) (by decide)) | (exact absurd (hc.symm.trans (by assumption : _ = true)) (by decide))) | skip)) | refine loopK.r ?_ | refine loopK.x ?_)
      | (fail)
      | fail
    all_goals first | (exfalso; omega) | skip
    all_goals (refine ret1f rfl rfl rfl (fun w1 hw => ⟨rfl, hw.below⟩))
  have e0 : thE N (vs.map (·.l)) = clsE N ((vs.drop 0).map (·.l)) := by unfold thE; rw [if_neg hN, if_neg (by omega)]; rfl
  obtain ⟨R0, hR0⟩ : ∃ R0, clsE N ((vs.drop 0).map (·.l)) = R0 := ⟨_, rfl⟩
  rw [e0, hR0]
  refine calls_of_JC (R := h) Try.func53 Try.ntmps53 rfl rfl (hw) ?_
  repeat' first
    | (refine J.isJ ?_; first | ((refine J.o 6 ?_; refine J.bx (fun b1 => ?_))) | (first | (refine J.o 0 ?_; refine J.ev' hΓ ?_) | refine J.nil ?_ | refine J.kd ?_ | (refine J.o 4 ?_; first | refine J.lT default hΓ ?_ | refine J.lR hΓ ?_) | (refine J.o 3 ?_; first | refine J.iJ hΓ ?_ | refine J.ev' hΓ ?_) | (refine J.o 1 ?_; first | refine J.ad ?_) | (refine J.o 6 ?_; refine J.bx (fun _ => ?_)) | (refine J.o 10 ?_; refine J.ev' hΓ ?_) | (refine J.o 11 ?_; refine J.ev' hΓ ?_)) | ((fail_if_success refine J.wt ?_); refine J.gc rfl rfl (fun hc => ?_) (fun hc => ?_) <;> ((try simp only [decide_eq_true_eq, decide_eq_false_iff_not, beq_iff_eq, beq_eq_false_iff_ne, bne_iff_ne, bne_eq_false_iff_eq, Bool.not_eq_true', Bool.not_eq_false', Bool.not_eq_true, Bool.not_eq_false] at hc) <;> first | (first | (exact absurd rfl hc) | (exfalso; omega) | (exact absurd (hc.symm.trans (by assumption : _ = false)) (by decide)) | (exact absurd (hc.symm.trans (by assumption : _ = true)) (by decide))) | skip)))
    | (first | refine JC.seq ?_ | refine JC.region ?_ | refine JC.block ?_ | refine JC.ret ?_ | refine JC.exit ?_ | refine JC.skip ?_ | refine thenK.nn ?_ | refine thenK.r ?_ | refine thenK.x ?_ | refine blockK.nn ?_ | refine blockK.r ?_ | refine blockK.hit rfl ?_ | refine JC.condT rfl ?_ | refine JC.condF rfl ?_ | (refine JC.cond rfl (fun hc => ?_) (fun hc => ?_) <;> ((try simp only [decide_eq_true_eq, decide_eq_false_iff_not, beq_iff_eq, beq_eq_false_iff_ne, bne_iff_ne, bne_eq_false_iff_eq, Bool.not_eq_true', Bool.not_eq_false', Bool.not_eq_true, Bool.not_eq_false] at hc) <;> first | (first | (exact absurd rfl hc) | (exfalso; omega) | (exact absurd (hc.symm.trans (by assumption : _ = false)) (by decide)) | (exact absurd (hc.symm.trans (by assumption : _ = true)) (by decide))) | skip)) | refine loopK.r ?_ | refine loopK.x ?_)
    | (fail)
    | fail
  all_goals first | (exfalso; omega) | skip
  refine JC.loop (fun i => i == 2 || i == 4 || i == 6 || Nat.ble 22 i) (fun m g L => ∃ (k : Nat), g 22 = .int .i64 (k : Int) ∧ k + m = vs.length ∧ clsE N ((vs.drop k).map (·.l)) = R0 ∧ L = _) vs.length ⟨0, rfl, by omega, hR0, rfl⟩ ?_
  rintro m g L ⟨k, e22, hkm, hRk, rfl⟩
  refine JC.pin 22 e22 ?_
  rcases Nat.lt_or_ge k vs.length with hk | hk
  ·
    rw [drop_g vs k hk, List.map_cons] at hRk
    have hik := hi _ (mem_g vs k hk)
    by_cases hlc : 128 < (vs.getD k default).l.length
    ·
      unfold clsE at hRk
      rw [if_pos hlc] at hRk
      repeat' first
        | (refine J.isJ ?_; first | ((refine J.o 4 ?_; first | refine J.lT default hΓ ?_ (hs := ho) (hr := q0 _))) | (first | (refine J.o 0 ?_; refine J.ev' hΓ ?_) | refine J.nil ?_ | refine J.kd ?_ | (refine J.o 4 ?_; first | refine J.lT default hΓ ?_ | refine J.lR hΓ ?_) | (refine J.o 3 ?_; first | refine J.iJ hΓ ?_ | refine J.ev' hΓ ?_) | (refine J.o 1 ?_; first | refine J.ad ?_) | (refine J.o 6 ?_; refine J.bx (fun _ => ?_)) | (refine J.o 10 ?_; refine J.ev' hΓ ?_) | (refine J.o 11 ?_; refine J.ev' hΓ ?_)) | ((fail_if_success refine J.wt ?_); refine J.gc rfl rfl (fun hc => ?_) (fun hc => ?_) <;> ((try simp only [decide_eq_true_eq, decide_eq_false_iff_not, beq_iff_eq, beq_eq_false_iff_ne, bne_iff_ne, bne_eq_false_iff_eq, Bool.not_eq_true', Bool.not_eq_false', Bool.not_eq_true, Bool.not_eq_false] at hc) <;> first | (first | (exact absurd rfl hc) | (exfalso; omega) | (exact absurd (hc.symm.trans (by assumption : _ = false)) (by decide)) | (exact absurd (hc.symm.trans (by assumption : _ = true)) (by decide))) | skip)))
        | (first | refine JC.seq ?_ | refine JC.region ?_ | refine JC.block ?_ | refine JC.ret ?_ | refine JC.exit ?_ | refine JC.skip ?_ | refine thenK.nn ?_ | refine thenK.r ?_ | refine thenK.x ?_ | refine blockK.nn ?_ | refine blockK.r ?_ | refine blockK.hit rfl ?_ | refine JC.condT rfl ?_ | refine JC.condF rfl ?_ | (refine JC.cond rfl (fun hc => ?_) (fun hc => ?_) <;> ((try simp only [decide_eq_true_eq, decide_eq_false_iff_not, beq_iff_eq, beq_eq_false_iff_ne, bne_iff_ne, bne_eq_false_iff_eq, Bool.not_eq_true', Bool.not_eq_false', Bool.not_eq_true, Bool.not_eq_false] at hc) <;> first | (first | (exact absurd rfl hc) | (exfalso; omega) | (exact absurd (hc.symm.trans (by assumption : _ = false)) (by decide)) | (exact absurd (hc.symm.trans (by assumption : _ = true)) (by decide))) | skip)) | refine loopK.r ?_ | refine loopK.x ?_)
        | (fail)
        | fail
      all_goals first | (exfalso; omega) | skip
      all_goals (refine ret1f rfl rfl rfl (fun w1 hw => ⟨?_, hw.below⟩))
      rw [hRk]
    unfold clsE at hRk
    rw [if_neg hlc] at hRk
    repeat' first
      | (refine J.isJ ?_; first | ((refine J.o 4 ?_; first | refine J.lT default hΓ ?_ (hs := ho) (hr := q0 _))) | (first | (refine J.o 0 ?_; refine J.ev' hΓ ?_) | refine J.nil ?_ | refine J.kd ?_ | (refine J.o 4 ?_; first | refine J.lT default hΓ ?_ | refine J.lR hΓ ?_) | (refine J.o 3 ?_; first | refine J.iJ hΓ ?_ | refine J.ev' hΓ ?_) | (refine J.o 1 ?_; first | refine J.ad ?_) | (refine J.o 6 ?_; refine J.bx (fun _ => ?_)) | (refine J.o 10 ?_; refine J.ev' hΓ ?_) | (refine J.o 11 ?_; refine J.ev' hΓ ?_)) | ((fail_if_success refine J.wt ?_); refine J.gc rfl rfl (fun hc => ?_) (fun hc => ?_) <;> ((try simp only [decide_eq_true_eq, decide_eq_false_iff_not, beq_iff_eq, beq_eq_false_iff_ne, bne_iff_ne, bne_eq_false_iff_eq, Bool.not_eq_true', Bool.not_eq_false', Bool.not_eq_true, Bool.not_eq_false] at hc) <;> first | (first | (exact absurd rfl hc) | (exfalso; omega) | (exact absurd (hc.symm.trans (by assumption : _ = false)) (by decide)) | (exact absurd (hc.symm.trans (by assumption : _ = true)) (by decide))) | skip)))
      | (first | refine JC.seq ?_ | refine JC.region ?_ | refine JC.block ?_ | refine JC.ret ?_ | refine JC.exit ?_ | refine JC.skip ?_ | refine thenK.nn ?_ | refine thenK.r ?_ | refine thenK.x ?_ | refine blockK.nn ?_ | refine blockK.r ?_ | refine blockK.hit rfl ?_ | refine JC.condT rfl ?_ | refine JC.condF rfl ?_ | (refine JC.cond rfl (fun hc => ?_) (fun hc => ?_) <;> ((try simp only [decide_eq_true_eq, decide_eq_false_iff_not, beq_iff_eq, beq_eq_false_iff_ne, bne_iff_ne, bne_eq_false_iff_eq, Bool.not_eq_true', Bool.not_eq_false', Bool.not_eq_true, Bool.not_eq_false] at hc) <;> first | (first | (exact absurd rfl hc) | (exfalso; omega) | (exact absurd (hc.symm.trans (by assumption : _ = false)) (by decide)) | (exact absurd (hc.symm.trans (by assumption : _ = true)) (by decide))) | skip)) | refine loopK.r ?_ | refine loopK.x ?_)
      | (fail)
      | fail
    all_goals first | (exfalso; omega) | skip
    refine JC.loop (fun i => i == 2 || i == 6 || (Nat.ble 31 i && Nat.ble i 40)) (fun m g L => ∃ (j : Nat), g 31 = .int .i64 (j : Int) ∧ j + m = (vs.getD k default).l.length ∧ litsE N ((vs.getD k default).l.drop j) = litsE N (vs.getD k default).l ∧ L = _) (vs.getD k default).l.length ⟨0, rfl, by omega, rfl, rfl⟩ ?_
    rintro m3 g3 L3 ⟨j, e31, hjm, hLj, rfl⟩
    refine JC.pin 31 e31 ?_
    rcases Nat.lt_or_ge j (vs.getD k default).l.length with hj | hj
    ·
      rw [drop_g _ j hj, litsE_cons] at hLj
      have cV := fun w => valid_any ((vs.getD k default).l.getD j default) N (by omega) w
      cases hv : validB ((vs.getD k default).l.getD j default) N with
      | true =>
        rw [hv] at cV
        rw [hv, if_pos rfl] at hLj
        repeat' first
          | (refine J.isJ ?_; first | (first | (refine J.o 4 ?_; first | refine J.lT default hΓ ?_ (hs := hik) (hr := q0 _)) | (refine J.fc 113 ?_; refine J.call0 eValid rfl rfl (fun w hw => cV w) ?_)) | (first | (refine J.o 0 ?_; refine J.ev' hΓ ?_) | refine J.nil ?_ | refine J.kd ?_ | (refine J.o 4 ?_; first | refine J.lT default hΓ ?_ | refine J.lR hΓ ?_) | (refine J.o 3 ?_; first | refine J.iJ hΓ ?_ | refine J.ev' hΓ ?_) | (refine J.o 1 ?_; first | refine J.ad ?_) | (refine J.o 6 ?_; refine J.bx (fun _ => ?_)) | (refine J.o 10 ?_; refine J.ev' hΓ ?_) | (refine J.o 11 ?_; refine J.ev' hΓ ?_)) | ((fail_if_success refine J.wt ?_); refine J.gc rfl rfl (fun hc => ?_) (fun hc => ?_) <;> ((try simp only [decide_eq_true_eq, decide_eq_false_iff_not, beq_iff_eq, beq_eq_false_iff_ne, bne_iff_ne, bne_eq_false_iff_eq, Bool.not_eq_true', Bool.not_eq_false', Bool.not_eq_true, Bool.not_eq_false] at hc) <;> first | (first | (exact absurd rfl hc) | (exfalso; omega) | (exact absurd (hc.symm.trans (by assumption : _ = false)) (by decide)) | (exact absurd (hc.symm.trans (by assumption : _ = true)) (by decide))) | skip)))
          | (first | refine JC.seq ?_ | refine JC.region ?_ | refine JC.block ?_ | refine JC.ret ?_ | refine JC.exit ?_ | refine JC.skip ?_ | refine thenK.nn ?_ | refine thenK.r ?_ | refine thenK.x ?_ | refine blockK.nn ?_ | refine blockK.r ?_ | refine blockK.hit rfl ?_ | refine JC.condT rfl ?_ | refine JC.condF rfl ?_ | (refine JC.cond rfl (fun hc => ?_) (fun hc => ?_) <;> ((try simp only [decide_eq_true_eq, decide_eq_false_iff_not, beq_iff_eq, beq_eq_false_iff_ne, bne_iff_ne, bne_eq_false_iff_eq, Bool.not_eq_true', Bool.not_eq_false', Bool.not_eq_true, Bool.not_eq_false] at hc) <;> first | (first | (exact absurd rfl hc) | (exfalso; omega) | (exact absurd (hc.symm.trans (by assumption : _ = false)) (by decide)) | (exact absurd (hc.symm.trans (by assumption : _ = true)) (by decide))) | skip)) | refine loopK.r ?_ | refine loopK.x ?_)
          | (fail)
          | fail
        all_goals first | (exfalso; omega) | skip
        all_goals refine loopK.nn (m3 - 1) (by omega) (by repeat (first | refine Ag.upd rfl ?_ | exact Ag.hv | refine Ag.hv2 (fun i hi => by simp at hi ⊢; omega) ?_)) ⟨j + 1, ?_, by omega, hLj, rfl⟩
        all_goals (show Value.int .i64 _ = _; congr 1)
      | false =>
        rw [hv] at cV
        rw [hv, if_neg (by decide)] at hLj
        rw [if_neg (by rw [← hLj]; decide)] at hRk
        repeat' first
          | (refine J.isJ ?_; first | (first | (refine J.o 4 ?_; first | refine J.lT default hΓ ?_ (hs := hik) (hr := q0 _)) | (refine J.fc 113 ?_; refine J.call0 eValid rfl rfl (fun w hw => cV w) ?_)) | (first | (refine J.o 0 ?_; refine J.ev' hΓ ?_) | refine J.nil ?_ | refine J.kd ?_ | (refine J.o 4 ?_; first | refine J.lT default hΓ ?_ | refine J.lR hΓ ?_) | (refine J.o 3 ?_; first | refine J.iJ hΓ ?_ | refine J.ev' hΓ ?_) | (refine J.o 1 ?_; first | refine J.ad ?_) | (refine J.o 6 ?_; refine J.bx (fun _ => ?_)) | (refine J.o 10 ?_; refine J.ev' hΓ ?_) | (refine J.o 11 ?_; refine J.ev' hΓ ?_)) | ((fail_if_success refine J.wt ?_); refine J.gc rfl rfl (fun hc => ?_) (fun hc => ?_) <;> ((try simp only [decide_eq_true_eq, decide_eq_false_iff_not, beq_iff_eq, beq_eq_false_iff_ne, bne_iff_ne, bne_eq_false_iff_eq, Bool.not_eq_true', Bool.not_eq_false', Bool.not_eq_true, Bool.not_eq_false] at hc) <;> first | (first | (exact absurd rfl hc) | (exfalso; omega) | (exact absurd (hc.symm.trans (by assumption : _ = false)) (by decide)) | (exact absurd (hc.symm.trans (by assumption : _ = true)) (by decide))) | skip)))
          | (first | refine JC.seq ?_ | refine JC.region ?_ | refine JC.block ?_ | refine JC.ret ?_ | refine JC.exit ?_ | refine JC.skip ?_ | refine thenK.nn ?_ | refine thenK.r ?_ | refine thenK.x ?_ | refine blockK.nn ?_ | refine blockK.r ?_ | refine blockK.hit rfl ?_ | refine JC.condT rfl ?_ | refine JC.condF rfl ?_ | (refine JC.cond rfl (fun hc => ?_) (fun hc => ?_) <;> ((try simp only [decide_eq_true_eq, decide_eq_false_iff_not, beq_iff_eq, beq_eq_false_iff_ne, bne_iff_ne, bne_eq_false_iff_eq, Bool.not_eq_true', Bool.not_eq_false', Bool.not_eq_true, Bool.not_eq_false] at hc) <;> first | (first | (exact absurd rfl hc) | (exfalso; omega) | (exact absurd (hc.symm.trans (by assumption : _ = false)) (by decide)) | (exact absurd (hc.symm.trans (by assumption : _ = true)) (by decide))) | skip)) | refine loopK.r ?_ | refine loopK.x ?_)
          | (fail)
          | fail
        all_goals first | (exfalso; omega) | skip
        all_goals (refine ret1f rfl rfl rfl (fun w1 hw => ⟨?_, hw.below⟩))
        rw [hRk]
    ·
      rw [List.drop_of_length_le hj] at hLj
      have hz : litsE N (vs.getD k default).l = 0 := hLj.symm
      rw [if_pos hz] at hRk
      repeat' first
        | (refine J.isJ ?_; first | (fail) | (first | (refine J.o 0 ?_; refine J.ev' hΓ ?_) | refine J.nil ?_ | refine J.kd ?_ | (refine J.o 4 ?_; first | refine J.lT default hΓ ?_ | refine J.lR hΓ ?_) | (refine J.o 3 ?_; first | refine J.iJ hΓ ?_ | refine J.ev' hΓ ?_) | (refine J.o 1 ?_; first | refine J.ad ?_) | (refine J.o 6 ?_; refine J.bx (fun _ => ?_)) | (refine J.o 10 ?_; refine J.ev' hΓ ?_) | (refine J.o 11 ?_; refine J.ev' hΓ ?_)) | ((fail_if_success refine J.wt ?_); refine J.gc rfl rfl (fun hc => ?_) (fun hc => ?_) <;> ((try simp only [decide_eq_true_eq, decide_eq_false_iff_not, beq_iff_eq, beq_eq_false_iff_ne, bne_iff_ne, bne_eq_false_iff_eq, Bool.not_eq_true', Bool.not_eq_false', Bool.not_eq_true, Bool.not_eq_false] at hc) <;> first | (first | (exact absurd rfl hc) | (exfalso; omega) | (exact absurd (hc.symm.trans (by assumption : _ = false)) (by decide)) | (exact absurd (hc.symm.trans (by assumption : _ = true)) (by decide))) | skip)))
        | (first | refine JC.seq ?_ | refine JC.region ?_ | refine JC.block ?_ | refine JC.ret ?_ | refine JC.exit ?_ | refine JC.skip ?_ | refine thenK.nn ?_ | refine thenK.r ?_ | refine thenK.x ?_ | refine blockK.nn ?_ | refine blockK.r ?_ | refine blockK.hit rfl ?_ | refine JC.condT rfl ?_ | refine JC.condF rfl ?_ | (refine JC.cond rfl (fun hc => ?_) (fun hc => ?_) <;> ((try simp only [decide_eq_true_eq, decide_eq_false_iff_not, beq_iff_eq, beq_eq_false_iff_ne, bne_iff_ne, bne_eq_false_iff_eq, Bool.not_eq_true', Bool.not_eq_false', Bool.not_eq_true, Bool.not_eq_false] at hc) <;> first | (first | (exact absurd rfl hc) | (exfalso; omega) | (exact absurd (hc.symm.trans (by assumption : _ = false)) (by decide)) | (exact absurd (hc.symm.trans (by assumption : _ = true)) (by decide))) | skip)) | refine loopK.r ?_ | refine loopK.x ?_)
        | (fail)
        | fail
      all_goals first | (exfalso; omega) | skip
      all_goals refine loopK.nn (m - 1) (by omega) (by repeat (first | refine Ag.upd rfl ?_ | exact Ag.hv | refine Ag.hv2 (fun i hi => by simp at hi ⊢; omega) ?_)) ⟨k + 1, ?_, by omega, hRk, rfl⟩
      all_goals (show Value.int .i64 _ = _; congr 1)
  ·
    rw [List.drop_of_length_le hk] at hRk
    repeat' first
      | (refine J.isJ ?_; first | (fail) | (first | (refine J.o 0 ?_; refine J.ev' hΓ ?_) | refine J.nil ?_ | refine J.kd ?_ | (refine J.o 4 ?_; first | refine J.lT default hΓ ?_ | refine J.lR hΓ ?_) | (refine J.o 3 ?_; first | refine J.iJ hΓ ?_ | refine J.ev' hΓ ?_) | (refine J.o 1 ?_; first | refine J.ad ?_) | (refine J.o 6 ?_; refine J.bx (fun _ => ?_)) | (refine J.o 10 ?_; refine J.ev' hΓ ?_) | (refine J.o 11 ?_; refine J.ev' hΓ ?_)) | ((fail_if_success refine J.wt ?_); refine J.gc rfl rfl (fun hc => ?_) (fun hc => ?_) <;> ((try simp only [decide_eq_true_eq, decide_eq_false_iff_not, beq_iff_eq, beq_eq_false_iff_ne, bne_iff_ne, bne_eq_false_iff_eq, Bool.not_eq_true', Bool.not_eq_false', Bool.not_eq_true, Bool.not_eq_false] at hc) <;> first | (first | (exact absurd rfl hc) | (exfalso; omega) | (exact absurd (hc.symm.trans (by assumption : _ = false)) (by decide)) | (exact absurd (hc.symm.trans (by assumption : _ = true)) (by decide))) | skip)))
      | (first | refine JC.seq ?_ | refine JC.region ?_ | refine JC.block ?_ | refine JC.ret ?_ | refine JC.exit ?_ | refine JC.skip ?_ | refine thenK.nn ?_ | refine thenK.r ?_ | refine thenK.x ?_ | refine blockK.nn ?_ | refine blockK.r ?_ | refine blockK.hit rfl ?_ | refine JC.condT rfl ?_ | refine JC.condF rfl ?_ | (refine JC.cond rfl (fun hc => ?_) (fun hc => ?_) <;> ((try simp only [decide_eq_true_eq, decide_eq_false_iff_not, beq_iff_eq, beq_eq_false_iff_ne, bne_iff_ne, bne_eq_false_iff_eq, Bool.not_eq_true', Bool.not_eq_false', Bool.not_eq_true, Bool.not_eq_false] at hc) <;> first | (first | (exact absurd rfl hc) | (exfalso; omega) | (exact absurd (hc.symm.trans (by assumption : _ = false)) (by decide)) | (exact absurd (hc.symm.trans (by assumption : _ = true)) (by decide))) | skip)) | refine loopK.r ?_ | refine loopK.x ?_)
      | (fail)
      | fail
    all_goals first | (exfalso; omega) | skip
    all_goals (refine ret1f rfl rfl rfl (fun w1 hw => ⟨?_, hw.below⟩))
    rw [← hRk]; rfl
def allS : Nat → Nat × Nat
  | 0 => (0, 0)
  | k + 1 => withS (allS k) ((k : Int) + 1)
theorem okS_all : ∀ k, okS (allS k)
  | 0 => ⟨by decide, by decide⟩
  | k + 1 => okS_with (okS_all k) _
theorem has_all : ∀ (k : Nat) (u : Int), k ≤ 128 → (hasB (allS k) u = true ↔ 1 ≤ u ∧ u ≤ k)
  | 0, u, _ => by rw [allS, has_zero]; exact ⟨fun h => absurd h (by decide), fun h => absurd h (by omega)⟩
  | k + 1, u, hk => by rw [allS, has_with _ _ _ (by omega), has_all k u (by omega)]; omega
theorem eAllV : Entr Try.prog 55 := Entr.of Try.func55 rfl rfl
theorem all_any (k : Nat) (hk : k ≤ 128) (w : World) : Calls Try.prog 55 #[.int .i64 (k : Int)] w fun e w' => e = .returned (sv (allS k)) ∧ Below w.heap.size w w' := by
  refine calls_of_JC (R := []) Try.func55 Try.ntmps55 rfl rfl (Holds.nil _) ?_
  repeat' first
    | (refine J.isJ ?_; first | (fail) | (first | (refine J.o 0 ?_; refine J.ev' hΓ ?_) | refine J.nil ?_ | (refine J.o 4 ?_; first | refine J.lR hΓ ?_) | (refine J.o 3 ?_; first | refine J.ev' hΓ ?_) | (refine J.o 1 ?_; first | refine J.ad ?_) | (refine J.o 5 ?_; first | refine J.t0 hΓ ?_ | refine J.t1 hΓ ?_) | (refine J.o 7 ?_; refine J.al hΓ (fun _ => ?_)) | (refine J.o 10 ?_; refine J.ev' hΓ ?_) | (refine J.o 11 ?_; refine J.ev' hΓ ?_)))
    | (first | refine JC.seq ?_ | refine JC.region ?_ | refine JC.block ?_ | refine JC.ret ?_ | refine JC.exit ?_ | refine JC.skip ?_ | refine thenK.nn ?_ | refine thenK.x ?_ | refine blockK.nn ?_ | refine blockK.hit rfl ?_ | (refine JC.cond rfl (fun hc => ?_) (fun hc => ?_) <;> ((try simp only [decide_eq_true_eq, decide_eq_false_iff_not, beq_iff_eq, beq_eq_false_iff_ne, bne_iff_ne, bne_eq_false_iff_eq, Bool.not_eq_true', Bool.not_eq_false', Bool.not_eq_true, Bool.not_eq_false] at hc) <;> first | (first | (exact absurd rfl hc) | (exfalso; omega) | (exact absurd (hc.symm.trans (by assumption : _ = false)) (by decide)) | (exact absurd (hc.symm.trans (by assumption : _ = true)) (by decide))) | skip)) | refine loopK.x ?_)
    | (fail)
    | fail
  all_goals first | (exfalso; omega) | skip
  rename_i b2 b3
  refine JC.loop (fun i => Nat.ble 4 i) (fun m g L => ∃ j : Nat, g 4 = .int .i64 ((j : Int) + 1) ∧ j + m = k ∧ L = [[(b3, .cells ⟨[.int .u64 ((allS j).1 : Int), .int .u64 ((allS j).2 : Int)]⟩ 53 (0, 0))], [(b2, .cells ⟨[.int .u64 0, .int .u64 0]⟩ 53 (0, 0))]]) k ⟨0, rfl, by omega, rfl⟩ ?_
  rintro m g L ⟨j, e4, hjm, rfl⟩
  refine JC.pin 4 e4 ?_
  clear e4
  have hmin : min (k : Int) 128 = k := by omega
  rcases Nat.lt_or_ge j k with hj | hj
  ·
    repeat' first
      | (refine J.isJ ?_; first | ((refine J.fc 114 ?_; refine J.call0 eWith rfl rfl (fun w hw => with_any (allS j) (okS_all j) ((j : Int) + 1) w) ?_)) | (first | (refine J.o 0 ?_; refine J.ev' hΓ ?_) | refine J.nil ?_ | (refine J.o 4 ?_; first | refine J.lR hΓ ?_) | (refine J.o 3 ?_; first | refine J.ev' hΓ ?_) | (refine J.o 1 ?_; first | refine J.ad ?_) | (refine J.o 5 ?_; first | refine J.t0 hΓ ?_ | refine J.t1 hΓ ?_) | (refine J.o 7 ?_; refine J.al hΓ (fun _ => ?_)) | (refine J.o 10 ?_; refine J.ev' hΓ ?_) | (refine J.o 11 ?_; refine J.ev' hΓ ?_)))
      | (first | refine JC.seq ?_ | refine JC.region ?_ | refine JC.block ?_ | refine JC.ret ?_ | refine JC.exit ?_ | refine JC.skip ?_ | refine thenK.nn ?_ | refine thenK.x ?_ | refine blockK.nn ?_ | refine blockK.hit rfl ?_ | (refine JC.cond rfl (fun hc => ?_) (fun hc => ?_) <;> ((try simp only [decide_eq_true_eq, decide_eq_false_iff_not, beq_iff_eq, beq_eq_false_iff_ne, bne_iff_ne, bne_eq_false_iff_eq, Bool.not_eq_true', Bool.not_eq_false', Bool.not_eq_true, Bool.not_eq_false] at hc) <;> first | (first | (exact absurd rfl hc) | (exfalso; omega) | (exact absurd (hc.symm.trans (by assumption : _ = false)) (by decide)) | (exact absurd (hc.symm.trans (by assumption : _ = true)) (by decide))) | skip)) | refine loopK.x ?_)
      | (fail)
      | fail
    all_goals first | (exfalso; omega) | skip
    refine loopK.nn (m - 1) (by omega) (by repeat (first | refine Ag.upd rfl ?_ | exact Ag.hv)) ⟨j + 1, ?_, by omega, rfl⟩
    show Value.int .i64 _ = _; congr 1
  · obtain rfl : j = k := by omega
    repeat' first
      | (refine J.isJ ?_; first | (fail) | (first | (refine J.o 0 ?_; refine J.ev' hΓ ?_) | refine J.nil ?_ | (refine J.o 4 ?_; first | refine J.lR hΓ ?_) | (refine J.o 3 ?_; first | refine J.ev' hΓ ?_) | (refine J.o 1 ?_; first | refine J.ad ?_) | (refine J.o 5 ?_; first | refine J.t0 hΓ ?_ | refine J.t1 hΓ ?_) | (refine J.o 7 ?_; refine J.al hΓ (fun _ => ?_)) | (refine J.o 10 ?_; refine J.ev' hΓ ?_) | (refine J.o 11 ?_; refine J.ev' hΓ ?_)))
      | (first | refine JC.seq ?_ | refine JC.region ?_ | refine JC.block ?_ | refine JC.ret ?_ | refine JC.exit ?_ | refine JC.skip ?_ | refine thenK.nn ?_ | refine thenK.x ?_ | refine blockK.nn ?_ | refine blockK.hit rfl ?_ | (refine JC.cond rfl (fun hc => ?_) (fun hc => ?_) <;> ((try simp only [decide_eq_true_eq, decide_eq_false_iff_not, beq_iff_eq, beq_eq_false_iff_ne, bne_iff_ne, bne_eq_false_iff_eq, Bool.not_eq_true', Bool.not_eq_false', Bool.not_eq_true, Bool.not_eq_false] at hc) <;> first | (first | (exact absurd rfl hc) | (exfalso; omega) | (exact absurd (hc.symm.trans (by assumption : _ = false)) (by decide)) | (exact absurd (hc.symm.trans (by assumption : _ = true)) (by decide))) | skip)) | refine loopK.x ?_)
      | (fail)
      | fail
    all_goals first | (exfalso; omega) | skip
    all_goals (refine retC hΓ rfl rfl rfl (by first | exact Rd.hd | exact Rd.hd.tl) rfl (fun w1 hw => ⟨rfl, hw.below⟩))
section
variable {P : Program} {n : Nat} {w0 : World} {R : Heap} {l0 : List Oper} {K : Exit → Fr → List Heap → Prop} {f : Fr} {L : List Heap} {rest : List (Nat × Oper)} {κ : Nat}
variable {Γ : List (Nat × TI)} {d : Nat} {ty : TypeId} {pos : String} {aft : Array Edge} {g : Option (Nat × Bool)}
theorem J.eA {u t e : TypeId} {x y : Operand} {a b : Nat × Nat} {s1 b1 b2 : Nat} {z1 z2 : Option Value} (hΓ : Fits P Γ) (k : J P n w0 R l0 K rest (upd f d (.bool (decide (a = b)))) L) (hg : wantB n f l0 ⟨some d, .binOp .eql t x y u, ty, pos, aft, g⟩ = true := by exact rfl) (hx : Cx.ev n f x = sv a := by exact rfl) (hy : Cx.ev n f y = sv b := by exact rfl)
    (ht : Go.Cx.look Γ t = some ⟨.array 2 e, s1, z1, b1⟩ := by exact rfl) (he : Go.Cx.look Γ e = some ⟨.int .u64, 1, z2, b2⟩ := by exact rfl) (h1 : P.eqGuardType P.depth t = false := by kernel_rfl) : J P n w0 R l0 K ((κ, ⟨some d, .binOp .eql t x y u, ty, pos, aft, g⟩) :: rest) f L :=
  J.p hg (fun w => by
    have hu := (hΓ t _ ht).1
    obtain ⟨hue, ie, hie, hse, hze, hbe⟩ := hΓ e _ he
    have hc : P.cellsOf e = 1 := by unfold Program.cellsOf; rw [hie]; exact hse
    have hp : ∀ (s : Nat × Nat) (i : Nat) (v : Value), [Value.int .u64 (s.1 : Int), .int .u64 (s.2 : Int)][i]? = some v → frc v = some v → (part e (#[Value.int .u64 (s.1 : Int), .int .u64 (s.2 : Int)]) (i * 1)).run P w = .ok v w := fun s i v hv hf => by
      refine partEv_ok hΓ (cs := [Value.int .u64 (s.1 : Int), .int .u64 (s.2 : Int)]) ?_ w
      unfold partEv
      rw [he]
      simp only [Nat.mul_one, hv]
      exact hf
    have hr : (Op.equalIn 10000 t (sv a) (sv b)).run P w = .ok (decide (a = b)) w := by
      unfold sv
      rw [run_equalIn_array w 9999 _ _ hu hie, hc]
      show (Op.eqItems 9999 e 1 _ _ [0, 1]).run P w = _
      simp only [Op.eqItems, Sem.run_bind]
      rw [hp a 0 (.int .u64 (a.1 : Int)) rfl rfl, Result.andThen_ok, hp b 0 (.int .u64 (b.1 : Int)) rfl rfl, Result.andThen_ok, run_equalIn_int w 9998 e .u64 .u64 _ _ hue, Result.andThen_ok]
      by_cases e1 : a.1 = b.1
      · have e2 : ((a.1 : Int) == (b.1 : Int)) = true := by simp [e1]
        rw [e2]
        simp only [Bool.not_true, Bool.false_eq_true, if_false, Sem.run_bind]
        rw [hp a 1 (.int .u64 (a.2 : Int)) rfl rfl, Result.andThen_ok, hp b 1 (.int .u64 (b.2 : Int)) rfl rfl, Result.andThen_ok, run_equalIn_int w 9998 e .u64 .u64 _ _ hue, Result.andThen_ok]
        by_cases e3 : a.2 = b.2
        · have e4 : ((a.2 : Int) == (b.2 : Int)) = true := by simp [e3]
          rw [e4, decide_eq_true (Prod.ext e1 e3)]
          rfl
        · have e4 : ((a.2 : Int) == (b.2 : Int)) = false := by simp; omega
          rw [e4, decide_eq_false (fun h => e3 (by rw [h]))]
          rfl
      · have e2 : ((a.1 : Int) == (b.1 : Int)) = false := by simp; omega
        rw [e2, decide_eq_false (fun h => e1 (by rw [h]))]
        rfl
    unfold sv at hr
    simp only [execOp, hx, hy, sv, Sem.run_bind]
    rw [run_eqGuard_agg w .eql t x y _ _ h1]
    simp only [Result.andThen_ok]
    rw [run_eql_struct, hr]
    rfl) k
theorem J.nA {u t e : TypeId} {x y : Operand} {a b : Nat × Nat} {s1 b1 b2 : Nat} {z1 z2 : Option Value} (hΓ : Fits P Γ) (k : J P n w0 R l0 K rest (upd f d (.bool (!decide (a = b)))) L) (hg : wantB n f l0 ⟨some d, .binOp .neq t x y u, ty, pos, aft, g⟩ = true := by exact rfl) (hx : Cx.ev n f x = sv a := by exact rfl) (hy : Cx.ev n f y = sv b := by exact rfl)
    (ht : Go.Cx.look Γ t = some ⟨.array 2 e, s1, z1, b1⟩ := by exact rfl) (he : Go.Cx.look Γ e = some ⟨.int .u64, 1, z2, b2⟩ := by exact rfl) (h1 : P.eqGuardType P.depth t = false := by kernel_rfl) : J P n w0 R l0 K ((κ, ⟨some d, .binOp .neq t x y u, ty, pos, aft, g⟩) :: rest) f L :=
  J.p hg (fun w => by
    have hu := (hΓ t _ ht).1
    obtain ⟨hue, ie, hie, hse, hze, hbe⟩ := hΓ e _ he
    have hc : P.cellsOf e = 1 := by unfold Program.cellsOf; rw [hie]; exact hse
    have hp : ∀ (s : Nat × Nat) (i : Nat) (v : Value), [Value.int .u64 (s.1 : Int), .int .u64 (s.2 : Int)][i]? = some v → frc v = some v → (part e (#[Value.int .u64 (s.1 : Int), .int .u64 (s.2 : Int)]) (i * 1)).run P w = .ok v w := fun s i v hv hf => by
      refine partEv_ok hΓ (cs := [Value.int .u64 (s.1 : Int), .int .u64 (s.2 : Int)]) ?_ w
      unfold partEv
      rw [he]
      simp only [Nat.mul_one, hv]
      exact hf
    have hr : (Op.equalIn 10000 t (sv a) (sv b)).run P w = .ok (decide (a = b)) w := by
      unfold sv
      rw [run_equalIn_array w 9999 _ _ hu hie, hc]
      show (Op.eqItems 9999 e 1 _ _ [0, 1]).run P w = _
      simp only [Op.eqItems, Sem.run_bind]
      rw [hp a 0 (.int .u64 (a.1 : Int)) rfl rfl, Result.andThen_ok, hp b 0 (.int .u64 (b.1 : Int)) rfl rfl, Result.andThen_ok, run_equalIn_int w 9998 e .u64 .u64 _ _ hue, Result.andThen_ok]
      by_cases e1 : a.1 = b.1
      · have e2 : ((a.1 : Int) == (b.1 : Int)) = true := by simp [e1]
        rw [e2]
        simp only [Bool.not_true, Bool.false_eq_true, if_false, Sem.run_bind]
        rw [hp a 1 (.int .u64 (a.2 : Int)) rfl rfl, Result.andThen_ok, hp b 1 (.int .u64 (b.2 : Int)) rfl rfl, Result.andThen_ok, run_equalIn_int w 9998 e .u64 .u64 _ _ hue, Result.andThen_ok]
        by_cases e3 : a.2 = b.2
        · have e4 : ((a.2 : Int) == (b.2 : Int)) = true := by simp [e3]
          rw [e4, decide_eq_true (Prod.ext e1 e3)]
          rfl
        · have e4 : ((a.2 : Int) == (b.2 : Int)) = false := by simp; omega
          rw [e4, decide_eq_false (fun h => e3 (by rw [h]))]
          rfl
      · have e2 : ((a.1 : Int) == (b.1 : Int)) = false := by simp; omega
        rw [e2, decide_eq_false (fun h => e1 (by rw [h]))]
        rfl
    unfold sv at hr
    simp only [execOp, hx, hy, sv, Sem.run_bind]
    rw [run_eqGuard_agg w .neq t x y _ _ h1]
    simp only [Result.andThen_ok]
    rw [run_neq_struct, hr]
    rfl) k
end
end Go.Proofs.Ytbhgahjeocnfcaa
namespace Go.Proofs.Ytbhgahjeocnfcaa
open Go Go.Cx
set_option linter.unusedVariables false
set_option linter.unusedSimpArgs false
def iteF (n : Nat) (ns : List N3) (x : T3) : (Nat → Bool) → Bool := fun α => if fn n ns x.a α then fn n ns x.b α else fn n ns x.c α
theorem iteF_ext {n : Nat} {ns ms : List N3} (w : WF n ns) (e : Ext ns ms) {x : T3} (hx : x.lt ns.length) : iteF n ms x = iteF n ns x := by
  funext α
  unfold iteF
  rw [fn_ext w e hx.1, fn_ext w e hx.2.1, fn_ext w e hx.2.2]
theorem part_up {n : Nat} {ns : List N3} (w : WF n ns) {a k : Nat} (b : Bool) (ha : a < ns.length) (hk : k < n) (hp : k ≤ (nd ns a).p) (α : Nat → Bool) : fn n ns (partN ns a k b) α = fn n ns a (up α k b) := by
  have h := part_fn w (up α k b) ha hk
  rw [up_eq] at h
  rw [← h, fn_up w α b (part_lt w b ha hk) (part_p w b ha hk hp)]
theorem iteF_part {n : Nat} {ns : List N3} (w : WF n ns) {x : T3} {k : Nat} (b : Bool) (hx : x.lt ns.length) (hk : k < n) (hf : x.from ns k) : iteF n ns (partT ns x k b) = fun α => iteF n ns x (up α k b) := by
  funext α
  unfold iteF partT
  dsimp only
  rw [part_up w b hx.1 hk hf.1, part_up w b hx.2.1 hk hf.2.1, part_up w b hx.2.2 hk hf.2.2]
theorem iteF_dep {n : Nat} {ns : List N3} (w : WF n ns) {x : T3} {k : Nat} (hx : x.lt ns.length) (hf : x.from ns k) {j : Nat} (hj : j < k) (b : Bool) (α : Nat → Bool) : iteF n ns x (up α j b) = iteF n ns x α := by
  unfold iteF
  rw [fn_up w α b hx.1 (Nat.lt_of_lt_of_le hj hf.1), fn_up w α b hx.2.1 (Nat.lt_of_lt_of_le hj hf.2.1), fn_up w α b hx.2.2 (Nat.lt_of_lt_of_le hj hf.2.2)]
def Cst (f : (Nat → Bool) → Bool) : Prop := ∀ α β, f α = f β
structure Lev (n : Nat) (Φ : Nat → List ((Nat → Bool) → Bool)) (c : Nat) : Prop where
  dep : ∀ j f, f ∈ Φ j → ∀ k b α, k < j → f (up α k b) = f α
  step : ∀ j f b, j < n → f ∈ Φ j → Cst (fun α => f (up α j b)) ∨ ∃ i, j < i ∧ i ≤ n ∧ (fun α => f (up α j b)) ∈ Φ i
  sz : ((List.range (n + 1)).flatMap Φ).length ≤ c
def InL (n : Nat) (Φ : Nat → List ((Nat → Bool) → Bool)) (k : Nat) (f : (Nat → Bool) → Bool) : Prop := Cst f ∨ ∃ j, k ≤ j ∧ j ≤ n ∧ f ∈ Φ j
theorem InL.step {n c : Nat} {Φ : Nat → List ((Nat → Bool) → Bool)} (v : Lev n Φ c) {k : Nat} {f : (Nat → Bool) → Bool} (hk : k < n) (b : Bool) (h : InL n Φ k f) : InL n Φ (k + 1) (fun α => f (up α k b)) := by
  rcases h with h | ⟨j, h1, h2, h3⟩
  · exact .inl fun α β => h _ _
  · rcases Nat.lt_or_ge k j with hlt | hge
    · have e : (fun α => f (up α k b)) = f := funext fun α => v.dep j f h3 k b α hlt
      rw [e]
      exact .inr ⟨j, hlt, h2, h3⟩
    · obtain rfl : j = k := by omega
      rcases v.step j f b hk h3 with g | ⟨i, g1, g2, g3⟩
      · exact .inl g
      · exact .inr ⟨i, g1, g2, g3⟩
theorem InL.skip {n c : Nat} {Φ : Nat → List ((Nat → Bool) → Bool)} (v : Lev n Φ c) {f : (Nat → Bool) → Bool} : ∀ (m k : Nat), k + m ≤ n → (∀ j, j < k + m → ∀ b α, f (up α j b) = f α) → InL n Φ k f → InL n Φ (k + m) f
  | 0, _, _, _, h => h
  | m + 1, k, hn, hd, h => by
    have e : (fun α => f (up α k false)) = f := funext fun α => hd k (by omega) false α
    have := InL.step v (by omega) false h
    rw [e] at this
    have := InL.skip v m (k + 1) (by omega) (fun j hj => hd j (by omega)) this
    rwa [show k + 1 + m = k + (m + 1) by omega] at this
def InG (n : Nat) (Φ : Nat → List ((Nat → Bool) → Bool)) (ns : List N3) (s0 : Nat) : Prop := ∀ j, s0 ≤ j → j < ns.length → InL n Φ 0 (fn n ns j)
theorem nodup_le {α : Type} : ∀ (l m : List α), l.Nodup → (∀ x ∈ l, x ∈ m) → l.length ≤ m.length
  | [], m, _, _ => Nat.zero_le _
  | x :: l, m, hn, hs => by
    obtain ⟨h1, h2⟩ := List.nodup_cons.1 hn
    obtain ⟨a, b, rfl⟩ := List.append_of_mem (hs x List.mem_cons_self)
    have := nodup_le l (a ++ b) h2 fun y hy => by
      have := hs y (List.mem_cons_of_mem _ hy)
      rcases List.mem_append.1 this with g | g
      · exact List.mem_append_left _ g
      · rcases List.mem_cons.1 g with rfl | g
        · exact absurd hy h1
        · exact List.mem_append_right _ g
    rw [List.length_append] at this
    rw [List.length_append, List.length_cons, List.length_cons]
    omega
theorem fn_noncst {n : Nat} {ns : List N3} (w : WF n ns) {j : Nat} (h2 : 2 ≤ j) (hj : j < ns.length) : ¬ Cst (fn n ns j) := fun h => by
  have two := w.two
  cases hb : fn n ns j (fun _ => false) with
  | false =>
    have := w.eq hj (show 0 < ns.length by omega) fun α => by rw [h α (fun _ => false), hb, fn_0 w]
    omega
  | true =>
    have := w.eq hj (show 1 < ns.length by omega) fun α => by rw [h α (fun _ => false), hb, fn_1 w]
    omega
theorem InG.len {n c : Nat} {Φ : Nat → List ((Nat → Bool) → Bool)} (v : Lev n Φ c) {ns : List N3} (w : WF n ns) {s0 : Nat} (h2 : 2 ≤ s0) (h : InG n Φ ns s0) : ns.length ≤ s0 + c := by
  rcases Nat.lt_or_ge ns.length s0 with hlt | hge
  · omega
  · have hn : ((List.range (ns.length - s0)).map fun i => fn n ns (s0 + i)).Nodup := by
      rw [List.Nodup, List.pairwise_map]
      refine List.Pairwise.imp_of_mem (fun {a b} ha hb hab e => hab ?_) (List.nodup_range (n := ns.length - s0))
      rw [List.mem_range] at ha hb
      have := w.eq (i := s0 + a) (j := s0 + b) (by omega) (by omega) fun α => congrFun e α
      omega
    have hs : ∀ x ∈ ((List.range (ns.length - s0)).map fun i => fn n ns (s0 + i)), x ∈ (List.range (n + 1)).flatMap Φ := fun x hx => by
      obtain ⟨i, hi, rfl⟩ := List.mem_map.1 hx
      rw [List.mem_range] at hi
      rcases h (s0 + i) (by omega) (by omega) with g | ⟨j, _, g2, g3⟩
      · exact absurd g (fn_noncst w (by omega) (by omega))
      · exact List.mem_flatMap.2 ⟨j, List.mem_range.2 (by omega), g3⟩
    have := nodup_le _ _ hn hs
    have hsz := v.sz
    rw [List.length_map, List.length_range] at this
    omega
theorem InG.start (n : Nat) (Φ : Nat → List ((Nat → Bool) → Bool)) (ns : List N3) : InG n Φ ns ns.length := fun j h1 h2 => by omega
theorem InG.ext {n : Nat} {Φ : Nat → List ((Nat → Bool) → Bool)} {ns ms : List N3} (w : WF n ns) (e : Ext ns ms) {s0 y : Nat} (h : InG n Φ ns s0) (hn : ms.length = ns.length ∨ (y = ns.length ∧ ms.length ≤ ns.length + 1)) (hy : InL n Φ 0 (fn n ms y)) : InG n Φ ms s0 := fun j h1 h2 => by
  rcases Nat.lt_or_ge j ns.length with g | g
  · have : fn n ms j = fn n ns j := funext fun α => fn_ext w e g α
    rw [this]
    exact h j h1 g
  · rcases hn with hn | ⟨rfl, hn⟩
    · omega
    · obtain rfl : j = ns.length := by omega
      exact hy
end Go.Proofs.Ytbhgahjeocnfcaa
