/- SiftKeeps: part 6. -/
import Derived.Test.YtbhgahjeocnfcaaGreatKeE
import Derived.Shelf.Small.Bits
import Derived.Shelf.Small.Wraps
import Derived.Shelf.Strconv.Itoa0
import Derived.Shelf.Sort.Plain
import Derived.Shelf.Slices.Reverse
import Derived.Ground.Names2Prog
import Derived.Shelf.Slices.Clone
import Derived.Shelf.Slices.SearchI
import Derived.Shelf.Slices.Cells
import Derived.Shelf.Slices.In.SortNone
import Derived.Ground.SlgnProg
import Derived.Shelf.SlicesE.Clone
import Derived.Ground.SlgfProg
import Derived.Shelf.SlicesE.IndexFunc
import Derived.Shelf.SlicesE.DeleteFunc
import Derived.Test.YtbhgahjeocnfcaaGreatProg
import Derived.Shelf.SortM.Plain
import Derived.Lib.AppendIntMem
namespace Go.Proofs.YtbhgahjeocnfcaaGreat
open Go Go.Cx
set_option linter.unusedVariables false
set_option linter.unusedSimpArgs false
def asg (n i : Nat) : Nat → Bool := fun k => decide (k < n) && i.testBit (n - 1 - k)
theorem asg_hi {n m r k : Nat} (hm : n - k = m + 1) : asg n (r + 2 ^ m) k = !(asg n r k) := by
  unfold asg
  have e : n - 1 - k = m := by omega
  have hk : k < n := by omega
  rw [e, decide_eq_true hk, Bool.true_and, Bool.true_and, Nat.add_comm, Nat.testBit_two_pow_add_eq]
theorem asg_lt {n m r k : Nat} (hm : n - k = m + 1) (h : r < 2 ^ m) : asg n r k = false := by
  unfold asg
  have e : n - 1 - k = m := by omega
  rw [e, Nat.testBit_lt_two_pow h, Bool.and_false]
theorem asg_other {n m r k j : Nat} (hm : n - k = m + 1) (hj : k < j) : asg n (r + 2 ^ m) j = asg n r j := by
  unfold asg
  by_cases hn : j < n
  · rw [decide_eq_true hn, Bool.true_and, Bool.true_and, Nat.add_comm, Nat.testBit_two_pow_add_gt (by omega)]
  · rw [decide_eq_false hn, Bool.false_and, Bool.false_and]
def blk (n : Nat) (ns : List N3) (k i : Nat) : List Bool := (List.range (2 ^ (n - k))).map fun r => fn n ns i (asg n r)
def tab (n : Nat) (ns : List N3) (i : Nat) : List Bool := blk n ns 0 i
theorem range_two (m : Nat) : List.range (2 ^ (m + 1)) = List.range (2 ^ m) ++ (List.range (2 ^ m)).map (· + 2 ^ m) := by
  rw [Nat.pow_succ, Nat.mul_two, List.range_add]
  congr 1
  exact List.map_congr_left fun a _ => Nat.add_comm _ _
theorem blk_len (n : Nat) (ns : List N3) (k i : Nat) : (blk n ns k i).length = 2 ^ (n - k) := by simp [blk]
theorem blk_later {n : Nat} {ns : List N3} (w : WF n ns) {k i : Nat} (hi : i < ns.length) (hk : k < (nd ns i).p) : blk n ns k i = blk n ns (k + 1) i ++ blk n ns (k + 1) i := by
  have := w.ple hi
  obtain ⟨m, hm⟩ : ∃ m, n - k = m + 1 := ⟨n - k - 1, by omega⟩
  unfold blk
  rw [hm, show n - (k + 1) = m by omega, range_two, List.map_append, List.map_map]
  congr 1
  refine List.map_congr_left fun r hr => fn_dep w _ i (Nat.le_refl _) hi fun j hj => asg_other hm (by omega)
theorem blk_node {n : Nat} {ns : List N3} (w : WF n ns) {i : Nat} (h2 : 2 ≤ i) (hi : i < ns.length) :
    blk n ns (nd ns i).p i = blk n ns ((nd ns i).p + 1) (nd ns i).l ++ blk n ns ((nd ns i).p + 1) (nd ns i).h := by
  have := w.pl i h2 hi
  have hl := w.lp i h2 hi
  have hh := w.hp i h2 hi
  obtain ⟨m, hm⟩ : ∃ m, n - (nd ns i).p = m + 1 := ⟨n - (nd ns i).p - 1, by omega⟩
  unfold blk
  rw [hm, show n - ((nd ns i).p + 1) = m by omega, range_two, List.map_append, List.map_map]
  congr 1
  · refine List.map_congr_left fun r hr => ?_
    rw [fn_node w _ h2 hi, asg_lt hm (List.mem_range.1 hr)]; rfl
  · refine List.map_congr_left fun r hr => ?_
    show fn n ns i (asg n (r + 2 ^ m)) = _
    rw [fn_node w _ h2 hi, asg_hi hm, asg_lt hm (List.mem_range.1 hr)]
    exact fn_dep w _ _ (Nat.le_refl _) (w.hl i h2 hi) fun j hj => asg_other hm (by omega)
theorem blk_end {n : Nat} {ns : List N3} (w : WF n ns) {i : Nat} (h2 : i < 2) : blk n ns n i = [decide (i = 1)] := by
  unfold blk
  rw [Nat.sub_self]
  show [fn n ns i _] = _
  unfold fn; rw [ev_const _ _ _ h2]
theorem blk_inj {n : Nat} {ns : List N3} (w : WF n ns) : ∀ (m k i j : Nat), n - k ≤ m → k ≤ (nd ns i).p → k ≤ (nd ns j).p → i < ns.length → j < ns.length → blk n ns k i = blk n ns k j → ∀ a, fn n ns i a = fn n ns j a
  | m, k, i, j, hm, hki, hkj, hi, hj, h => fun a => by
    have hpi := w.ple hi
    have hpj := w.ple hj
    have len : ∀ x y, (blk n ns (k + 1) x).length = (blk n ns (k + 1) y).length := fun x y => by rw [blk_len, blk_len]
    -- the halves of a block and what they say
    have half : ∀ x, k ≤ (nd ns x).p → x < ns.length → k < n → ∃ l h, blk n ns k x = blk n ns (k + 1) l ++ blk n ns (k + 1) h ∧ k + 1 ≤ (nd ns l).p ∧ k + 1 ≤ (nd ns h).p ∧ l < ns.length ∧ h < ns.length ∧ fn n ns x a = if a k then fn n ns h a else fn n ns l a := by
      intro x hkx hx hkn
      rcases Nat.lt_or_ge k (nd ns x).p with hlt | hge
      · exact ⟨x, x, blk_later w hx hlt, hlt, hlt, hx, hx, by split <;> rfl⟩
      · have hp : (nd ns x).p = k := by omega
        have h2 := w.nonconst (show (nd ns x).p < n by omega)
        exact ⟨(nd ns x).l, (nd ns x).h, by have := blk_node w h2 hx; rw [hp] at this; exact this, by have := w.lp x h2 hx; omega, by have := w.hp x h2 hx; omega, w.ll x h2 hx, w.hl x h2 hx, by rw [fn_node w a h2 hx, hp]⟩
    rcases Nat.lt_or_ge k n with hkn | hkn
    · obtain ⟨m', rfl⟩ : ∃ m', m = m' + 1 := ⟨m - 1, by omega⟩
      obtain ⟨l1, h1, e1, a1, b1, c1, d1, f1⟩ := half i hki hi hkn
      obtain ⟨l2, h2, e2, a2, b2, c2, d2, f2⟩ := half j hkj hj hkn
      rw [e1, e2] at h
      obtain ⟨g1, g2⟩ := List.append_inj h (len _ _)
      rw [f1, f2, blk_inj w m' (k + 1) h1 h2 (by omega) b1 b2 d1 d2 g2 a, blk_inj w m' (k + 1) l1 l2 (by omega) a1 a2 c1 c2 g1 a]
    · obtain rfl : k = n := by omega
      have hc : ∀ x, k ≤ (nd ns x).p → x < ns.length → x < 2 := fun x h hx => by
        rcases Nat.lt_or_ge x 2 with h2 | h2
        · exact h2
        · have := w.pl x h2 hx; omega
      rw [blk_end w (hc i hki hi), blk_end w (hc j hkj hj)] at h
      unfold fn
      rw [ev_const _ _ _ (hc i hki hi), ev_const _ _ _ (hc j hkj hj)]
      simpa using h
theorem blk_eq {n : Nat} {ns : List N3} (w : WF n ns) {k i j : Nat} (hki : k ≤ (nd ns i).p) (hkj : k ≤ (nd ns j).p) (hi : i < ns.length) (hj : j < ns.length) : blk n ns k i = blk n ns k j ↔ i = j :=
  ⟨fun h => w.eq hi hj (blk_inj w (n - k) k i j (Nat.le_refl _) hki hkj hi hj h), fun h => by rw [h]⟩
def cS (ns : List N3) : Nat → Nat → Nat
  | 0, i => i
  | f + 1, i => if i < 2 then i else 2 ^ ((nd ns (nd ns i).l).p - (nd ns i).p - 1) * cS ns f (nd ns i).l + 2 ^ ((nd ns (nd ns i).h).p - (nd ns i).p - 1) * cS ns f (nd ns i).h
def cN (n : Nat) (ns : List N3) (i : Nat) : Nat := cS ns n i
theorem cS_const (ns : List N3) {i : Nat} (h : i < 2) : ∀ f, cS ns f i = i
  | 0 => rfl
  | f + 1 => by rw [cS, if_pos h]
theorem cS_fuel {n : Nat} {ns : List N3} (w : WF n ns) : ∀ (f g i : Nat), i < ns.length → n - (nd ns i).p ≤ f → n - (nd ns i).p ≤ g → cS ns f i = cS ns g i
  | f, g, i, hi, hf, hg => by
    rcases Nat.lt_or_ge i 2 with h2 | h2
    · rw [cS_const _ h2, cS_const _ h2]
    · have hp := w.pl i h2 hi
      obtain ⟨f', rfl⟩ : ∃ f', f = f' + 1 := ⟨f - 1, by omega⟩
      obtain ⟨g', rfl⟩ : ∃ g', g = g' + 1 := ⟨g - 1, by omega⟩
      have hl := w.lp i h2 hi
      have hh := w.hp i h2 hi
      have hn : ¬ i < 2 := by omega
      rw [cS, cS, if_neg hn, if_neg hn, cS_fuel w f' g' _ (w.ll i h2 hi) (by omega) (by omega), cS_fuel w f' g' _ (w.hl i h2 hi) (by omega) (by omega)]
theorem cN_const {n : Nat} {ns : List N3} {i : Nat} (h : i < 2) : cN n ns i = i := cS_const ns h n
theorem cN_node {n : Nat} {ns : List N3} (w : WF n ns) {i : Nat} (h2 : 2 ≤ i) (hi : i < ns.length) :
    cN n ns i = 2 ^ ((nd ns (nd ns i).l).p - (nd ns i).p - 1) * cN n ns (nd ns i).l + 2 ^ ((nd ns (nd ns i).h).p - (nd ns i).p - 1) * cN n ns (nd ns i).h := by
  have hp := w.pl i h2 hi
  have hl := w.lp i h2 hi
  have hh := w.hp i h2 hi
  unfold cN
  rw [cS_fuel w n ((n - 1) + 1) i hi (by omega) (by omega), cS, if_neg (by omega), cS_fuel w (n - 1) n _ (w.ll i h2 hi) (by omega) (by omega), cS_fuel w (n - 1) n _ (w.hl i h2 hi) (by omega) (by omega)]
theorem blk_count {n : Nat} {ns : List N3} (w : WF n ns) : ∀ (m k i : Nat), n - k ≤ m → k ≤ (nd ns i).p → i < ns.length → (blk n ns k i).count true = 2 ^ ((nd ns i).p - k) * cN n ns i
  | m, k, i, hm, hk, hi => by
    have hpi := w.ple hi
    rcases Nat.lt_or_ge k (nd ns i).p with hlt | hge
    · obtain ⟨m', rfl⟩ : ∃ m', m = m' + 1 := ⟨m - 1, by omega⟩
      rw [blk_later w hi hlt, List.count_append, blk_count w m' (k + 1) i (by omega) hlt hi, ← Nat.two_mul, ← Nat.mul_assoc, ← Nat.pow_succ', show ((nd ns i).p - (k + 1)).succ = (nd ns i).p - k by omega]
    · obtain rfl : k = (nd ns i).p := by omega
      rw [Nat.sub_self, Nat.pow_zero, Nat.one_mul]
      rcases Nat.lt_or_ge i 2 with h2 | h2
      · rw [w.pconst h2, blk_end w h2, cN_const h2]
        have : i = 0 ∨ i = 1 := by omega
        rcases this with rfl | rfl <;> rfl
      · have hp := w.pl i h2 hi
        have hl := w.lp i h2 hi
        have hh := w.hp i h2 hi
        obtain ⟨m', rfl⟩ : ∃ m', m = m' + 1 := ⟨m - 1, by omega⟩
        rw [blk_node w h2 hi, List.count_append, blk_count w m' _ _ (by omega) hl (w.ll i h2 hi), blk_count w m' _ _ (by omega) hh (w.hl i h2 hi), cN_node w h2 hi]
        rfl
theorem tab_count {n : Nat} {ns : List N3} (w : WF n ns) {i : Nat} (hi : i < ns.length) : 2 ^ (nd ns i).p * cN n ns i = (tab n ns i).count true := by
  unfold tab
  rw [blk_count w n 0 i (by omega) (by omega) hi, Nat.sub_zero]
theorem cN_le {n : Nat} {ns : List N3} (w : WF n ns) {i : Nat} (hi : i < ns.length) : 2 ^ (nd ns i).p * cN n ns i ≤ 2 ^ n := by
  rw [tab_count w hi]
  refine Nat.le_trans List.count_le_length ?_
  unfold tab
  rw [blk_len, Nat.sub_zero]; exact Nat.le_refl _
inductive Rch (ns : List N3) (i : Nat) : Nat → Prop
  | refl : Rch ns i i
  | low {j : Nat} : Rch ns i j → 2 ≤ j → Rch ns i (nd ns j).l
  | high {j : Nat} : Rch ns i j → 2 ≤ j → Rch ns i (nd ns j).h
theorem Rch.lt {n : Nat} {ns : List N3} (w : WF n ns) {i j : Nat} (hi : i < ns.length) (h : Rch ns i j) : j < ns.length := by
  induction h with
  | refl => exact hi
  | low _ h2 ih => exact w.ll _ h2 ih
  | high _ h2 ih => exact w.hl _ h2 ih
theorem Rch.trans {ns : List N3} {i j k : Nat} (h : Rch ns i j) (g : Rch ns j k) : Rch ns i k := by
  induction g with
  | refl => exact h
  | low _ h2 ih => exact .low ih h2
  | high _ h2 ih => exact .high ih h2
def lvl (n : Nat) (ns : List N3) (i : Nat) : Nat → List Nat
  | 0 => [i]
  | k + 1 => (lvl n ns i k).flatMap fun j => if (nd ns j).p = k then [(nd ns j).l, (nd ns j).h] else [j, j]
theorem lvl_ok {n : Nat} {ns : List N3} (w : WF n ns) {i : Nat} (hi : i < ns.length) : ∀ k, k ≤ n → ∀ j ∈ lvl n ns i k, j < ns.length ∧ k ≤ (nd ns j).p ∧ Rch ns i j
  | 0, _, j, hj => by
    rw [List.mem_singleton.1 hj]; exact ⟨hi, Nat.zero_le _, .refl⟩
  | k + 1, hk, j, hj => by
    obtain ⟨x, hx, hj⟩ := List.mem_flatMap.1 hj
    obtain ⟨h1, h2, h3⟩ := lvl_ok w hi k (by omega) x hx
    split at hj
    · rename_i hp
      have h4 := w.nonconst (show (nd ns x).p < n by omega)
      rcases List.mem_cons.1 hj with rfl | hj
      · exact ⟨w.ll x h4 h1, by have := w.lp x h4 h1; omega, .low h3 h4⟩
      · rw [List.mem_singleton.1 hj]
        exact ⟨w.hl x h4 h1, by have := w.hp x h4 h1; omega, .high h3 h4⟩
    · have : j = x := by simpa using hj
      subst this
      exact ⟨h1, by omega, h3⟩
theorem lvl_rch {n : Nat} {ns : List N3} (w : WF n ns) {i j : Nat} (hi : i < ns.length) (h : Rch ns i j) : ∀ k, k ≤ (nd ns j).p → k ≤ n → (∃ x ∈ lvl n ns i k, Rch ns x j) := by
  intro k
  induction k with
  | zero => intro _ _; exact ⟨i, List.mem_singleton_self i, h⟩
  | succ k ih =>
    intro hk hn
    obtain ⟨x, hx, hr⟩ := ih (by omega) (by omega)
    obtain ⟨h1, h2, h3⟩ := lvl_ok w hi k (by omega) x hx
    by_cases hp : (nd ns x).p = k
    · have h4 := w.nonconst (show (nd ns x).p < n by omega)
      -- x is not j: the way goes over one of its parts
      have key : j = x ∨ Rch ns (nd ns x).l j ∨ Rch ns (nd ns x).h j := by
        clear hk ih h
        induction hr with
        | refl => exact .inl rfl
        | low hr h2 ih =>
          rcases ih with e | e | e
          · rw [e]; exact .inr (.inl .refl)
          · exact .inr (.inl (.low e h2))
          · exact .inr (.inr (.low e h2))
        | high hr h2 ih =>
          rcases ih with e | e | e
          · rw [e]; exact .inr (.inr .refl)
          · exact .inr (.inl (.high e h2))
          · exact .inr (.inr (.high e h2))
      rcases key with e | e | e
      · subst e; omega
      · exact ⟨_, List.mem_flatMap.2 ⟨x, hx, by rw [if_pos hp]; simp⟩, e⟩
      · exact ⟨_, List.mem_flatMap.2 ⟨x, hx, by rw [if_pos hp]; simp⟩, e⟩
    · exact ⟨x, List.mem_flatMap.2 ⟨x, hx, by rw [if_neg hp]; simp⟩, hr⟩
theorem rch_p {n : Nat} {ns : List N3} (w : WF n ns) {i j : Nat} (hi : i < ns.length) (h : Rch ns i j) : i = j ∨ (2 ≤ i ∧ (nd ns i).p < (nd ns j).p) := by
  induction h with
  | refl => exact .inl rfl
  | low hr h2 ih =>
    have h3 := w.lp _ h2 (hr.lt w hi)
    rcases ih with e | ⟨e1, e2⟩
    · subst e; exact .inr ⟨h2, h3⟩
    · exact .inr ⟨e1, by omega⟩
  | high hr h2 ih =>
    have h3 := w.hp _ h2 (hr.lt w hi)
    rcases ih with e | ⟨e1, e2⟩
    · subst e; exact .inr ⟨h2, h3⟩
    · exact .inr ⟨e1, by omega⟩
theorem lvl_iff {n : Nat} {ns : List N3} (w : WF n ns) {i j k : Nat} (hi : i < ns.length) (hk : k < n) : (j ∈ lvl n ns i k ∧ (nd ns j).p = k) ↔ (Rch ns i j ∧ 2 ≤ j ∧ (nd ns j).p = k) := by
  constructor
  · rintro ⟨h1, h2⟩
    obtain ⟨h3, h4, h5⟩ := lvl_ok w hi k (by omega) j h1
    exact ⟨h5, w.nonconst (by omega), h2⟩
  · rintro ⟨h1, h2, h3⟩
    obtain ⟨x, hx, hr⟩ := lvl_rch w hi h1 k (by omega) (by omega)
    obtain ⟨h4, h5, _⟩ := lvl_ok w hi k (by omega) x hx
    rcases rch_p w h4 hr with e | ⟨_, e⟩
    · subst e; exact ⟨hx, h3⟩
    · omega
theorem flatMap_cong {α β : Type} {l : List α} {f g : α → List β} (h : ∀ x ∈ l, f x = g x) : l.flatMap f = l.flatMap g := by
  induction l with
  | nil => rfl
  | cons x l ih => rw [List.flatMap_cons, List.flatMap_cons, h x (by simp), ih fun y hy => h y (by simp [hy])]
theorem tab_lvl {n : Nat} {ns : List N3} (w : WF n ns) {i : Nat} (hi : i < ns.length) : ∀ k, k ≤ n → tab n ns i = (lvl n ns i k).flatMap (blk n ns k)
  | 0, _ => by simp [lvl, tab]
  | k + 1, hk => by
    rw [tab_lvl w hi k (by omega), lvl, List.flatMap_assoc]
    refine flatMap_cong fun j hj => ?_
    obtain ⟨h1, h2, _⟩ := lvl_ok w hi k (by omega) j hj
    split
    · rename_i hp
      have h4 := w.nonconst (show (nd ns j).p < n by omega)
      have := blk_node w h4 h1
      rw [hp] at this
      rw [this]; simp
    · rw [blk_later w h1 (by omega)]; simp
end Go.Proofs.YtbhgahjeocnfcaaGreat
namespace Go.Proofs.YtbhgahjeocnfcaaGreat
open Go Go.Cx Go.RowKit
set_option linter.unusedVariables false
set_option linter.unusedSimpArgs false
set_option maxHeartbeats 4000000
attribute [local irreducible] J JC thenK blockK loopK roundK drawK retK QW Qt pel List.set Calls
open Go.Maps
set_option maxRecDepth 8000
attribute [local irreducible] JE Br eK0 eK3 brK pc
def evBo (b : Bool) : Value := .bool b
structure Vis (ns : List N3) (out out' : List Nat) (r : Nat) : Prop where
  sub : ∀ x ∈ out, x ∈ out'
  has : r < 2 ∨ r ∈ out'
  new : ∀ x ∈ out', x ∈ out ∨ (2 ≤ x ∧ Rch ns r x)
  cl : ∀ x ∈ out', x ∈ out ∨ (((nd ns x).l < 2 ∨ (nd ns x).l ∈ out') ∧ ((nd ns x).h < 2 ∨ (nd ns x).h ∈ out'))
def seenL (out : List Nat) : List (Int × Bool) := (0, true) :: (1, true) :: out.map fun x : Nat => ((x : Int), true)
theorem seen_get (out : List Nat) (b : Nat) : mget (seenL out) (b : Int) = if b < 2 ∨ b ∈ out then some true else none := by
  have h2 : ∀ l : List Nat, mget (l.map fun x : Nat => ((x : Int), true)) (b : Int) = if b ∈ l then some true else none := by
    intro l
    induction l with
    | nil => rfl
    | cons x l ih =>
      unfold mget at ih ⊢
      rw [List.map_cons, List.find?_cons]
      by_cases hx : x = b
      · subst hx; simp
      · have h3 : ¬ ((x : Int) = (b : Int)) := by omega
        have h4 : ¬ (b = x) := fun e => hx e.symm
        simp only [h3, decide_false, List.mem_cons, h4, false_or]
        exact ih
  have h0 := h2 out
  unfold seenL
  unfold mget at h0 ⊢
  rw [List.find?_cons, List.find?_cons]
  by_cases e0 : b = 0
  · subst e0; simp
  · by_cases e1 : b = 1
    · subst e1; simp
    · have h3 : ¬ ((0 : Int) = (b : Int)) := by omega
      have h4 : ¬ ((1 : Int) = (b : Int)) := by omega
      have h5 : ¬ b < 2 := by omega
      simp only [h3, h4, decide_false, h5, false_or]
      exact h0
theorem seen_put {out : List Nat} {b : Nat} (h : ¬ (b < 2 ∨ b ∈ out)) : mput (seenL out) (b : Int) true = seenL (out ++ [b]) := by
  rw [mput_new true (mget_out (by rw [seen_get, if_neg h]))]
  unfold seenL
  simp
theorem nodup_sub_len : ∀ (l m : List Nat), l.Nodup → (∀ x ∈ l, x ∈ m) → l.length ≤ m.length
  | [], _, _, _ => Nat.zero_le _
  | x :: l, m, hn, hs => by
    obtain ⟨h1, h2⟩ := List.nodup_cons.1 hn
    obtain ⟨s, t, rfl⟩ := List.append_of_mem (hs x (by simp))
    have := nodup_sub_len l (s ++ t) h2 fun y hy => by
      have h3 := hs y (by simp [hy])
      rcases List.mem_append.1 h3 with h4 | h4
      · exact List.mem_append_left _ h4
      · rcases List.mem_cons.1 h4 with h5 | h5
        · subst h5; exact absurd hy h1
        · exact List.mem_append_right _ h5
    simp only [List.length_append, List.length_cons] at this ⊢
    omega
theorem nodup_len {l : List Nat} {m : Nat} (hn : l.Nodup) (h : ∀ x ∈ l, x < m) : l.length ≤ m := by
  have := nodup_sub_len l (List.range m) hn fun x hx => List.mem_range.2 (h x hx)
  rwa [List.length_range] at this
theorem Vis.join {ns : List N3} {out o1 o2 : List Nat} {b : Nat} (h2 : 2 ≤ b) (v1 : Vis ns (out ++ [b]) o1 (nd ns b).l) (v2 : Vis ns o1 o2 (nd ns b).h) : Vis ns out o2 b := by
  have hb : b ∈ o2 := v2.sub _ (v1.sub _ (List.mem_append_right _ (List.mem_singleton_self _)))
  refine ⟨fun x hx => v2.sub _ (v1.sub _ (List.mem_append_left _ hx)), .inr hb, fun x hx => ?_, fun x hx => ?_⟩
  · rcases v2.new x hx with h | ⟨g1, g2⟩
    · rcases v1.new x h with h | ⟨g1, g2⟩
      · rcases List.mem_append.1 h with h | h
        · exact .inl h
        · rw [List.mem_singleton.1 h]; exact .inr ⟨h2, .refl⟩
      · exact .inr ⟨g1, (Rch.low .refl h2).trans g2⟩
    · exact .inr ⟨g1, (Rch.high .refl h2).trans g2⟩
  · rcases v2.cl x hx with h | h
    · rcases v1.cl x h with h | ⟨h3, h4⟩
      · rcases List.mem_append.1 h with h | h
        · exact .inl h
        · rw [List.mem_singleton.1 h]
          exact .inr ⟨v1.has.imp id (v2.sub _), v2.has⟩
      · exact .inr ⟨h3.imp id (v2.sub _), h4.imp id (v2.sub _)⟩
    · exact .inr h
theorem Vis.all {ns : List N3} {o : List Nat} {b : Nat} (v : Vis ns [] o b) (x : Nat) : x ∈ o ↔ (2 ≤ x ∧ Rch ns b x) := by
  constructor
  · intro hx
    rcases v.new x hx with h | h
    · cases h
    · exact h
  · rintro ⟨h2, hr⟩
    have key : x < 2 ∨ x ∈ o := by
      clear h2
      induction hr with
      | refl => exact v.has
      | low _ g2 ih =>
        rcases ih with g | g
        · omega
        · rcases v.cl _ g with g | g
          · cases g
          · exact g.1
      | high _ g2 ih =>
        rcases ih with g | g
        · omega
        · rcases v.cl _ g with g | g
          · cases g
          · exact g.2
    exact key.resolve_left (by omega)
theorem eVisit : Entr Tryz.prog 76 := Entr.of Tryz.func76 rfl rfl
theorem eBelow : Entr Tryz.prog 48 := Entr.of Tryz.func48 rfl rfl
theorem eSize : Entr Tryz.prog 16 := Entr.of Tryz.func16 rfl rfl
def natI (l : List Nat) : List Int := l.map fun x : Nat => (x : Int)
def mapO (b : Nat) : Obj := .cells ⟨[.map (some b)]⟩ 105 (0, 0)
def outO (a : Option Addr) (l c : Nat) : Obj := .cells ⟨[.slice a l c]⟩ 28 (0, 0)
def fnV (c5 c6 c7 c2 : Nat) : Obj := .cells ⟨[.func (.func 76) ⟨[]⟩ ⟨[.pointer (some ⟨c5, 0, none⟩), .pointer (some ⟨c6, 0, none⟩), .pointer (some ⟨c7, 0, none⟩), .pointer (some ⟨c2, 0, none⟩)]⟩]⟩ 125 (0, 0)
theorem visit_any {n : Nat} {K : KS} {s : SS} (so : SOk n K s) (b0 c5 c6 c7 c2 bm : Nat) : ∀ (m b : Nat), n - (nd s.ns b).p = m → b < s.ns.length → ∀ (out : List Nat) (ao : Option Addr) (co : Nat) (hO hM : Heap), out.Nodup → (∀ x ∈ out, x < s.ns.length) →
    OwT encI 1 3 ao co (natI out) hO → MapT Tryz.prog 3 ekI evBo (seenL out) bm hM →
    ∀ {w0 w : World} {R : Heap} {L : List Heap}, H w0 R ([(c6, outO ao out.length co)] :: hO :: hM :: L) w → Rd R L c5 (mapO bm) → Rd R L c7 (fnV c5 c6 c7 c2) → Rd R L c2 (ptrS b0) → Rd R L b0 (stO K s.an s.ns.length s.cn) → RdH R L s.hN →
    Calls Tryz.prog 76 #[.int .i64 (b : Int), .pointer (some ⟨c5, 0, none⟩), .pointer (some ⟨c6, 0, none⟩), .pointer (some ⟨c7, 0, none⟩), .pointer (some ⟨c2, 0, none⟩)] w fun e w' => ∃ v L', e = .returned v ∧ H w0 R L' w' ∧ ∃ out' ao' co' hO' hM', v = .tuple #[] ∧ L' = [(c6, outO ao' out'.length co')] :: hO' :: hM' :: L ∧ out'.Nodup ∧ (∀ x ∈ out', x < s.ns.length) ∧ OwT encI 1 3 ao' co' (natI out') hO' ∧ MapT Tryz.prog 3 ekI evBo (seenL out') bm hM' ∧ Vis s.ns out out' b := by
  intro m
  induction m using Nat.strongRecOn with
  | ind m ih =>
  intro b hm hb out ao co hO hM nod rng oo mp w0 w R L hw r5 r7 r2 rb rn
  have sm := so.sm
  have r5' := r5
  have r7' := r7
  have r2' := r2
  have rb' := rb
  unfold mapO at r5'
  unfold fnV at r7'
  unfold ptrS at r2'
  unfold stO at rb'
  have hsl := so.ow.sl
  have hkey := keyI (b : Int) (by omega)
  have hget := seen_get out b
  by_cases hin : b < 2 ∨ b ∈ out
  · rw [if_pos hin] at hget
    refine calls_in Tryz.func76 Tryz.ntmps76 rfl rfl (hw) ?_
    unfold outO
    repeat' first
      | (refine J.isJ ?_; first | (first | (refine J.o 4 ?_; first | refine J.lR hΓ ?_ (hr := r5'.tl.tl.tl)) | (refine J.o 9 ?_; refine J.lk (a := (b : Int)) keyedI ekI_inj mp (by first | exact RdH.hd | exact RdH.hd.tl | exact RdH.hd.tl.tl | exact RdH.hd.tl.tl.tl | exact RdH.hd.tl.tl.tl.tl | exact RdH.hd.tl.tl.tl.tl.tl | exact RdH.hd.tl.tl.tl.tl.tl.tl | exact RdH.hd.tl.tl.tl.tl.tl.tl.tl | exact RdH.old (fun _ hh => hh) | assumption) hkey hΓ ?_; rw [hget])) | (first | (refine J.o 0 ?_; refine J.ev' hΓ ?_) | refine J.nil ?_ | (refine J.o 4 ?_; first | refine J.lT default hΓ ?_ | refine J.lR hΓ ?_) | (refine J.o 3 ?_; first | refine J.iJ hΓ ?_ | refine J.fP hΓ ?_ | refine J.ev' hΓ ?_) | (refine J.o 5 ?_; first | refine J.t2 hΓ ?_) | (refine J.o 9 ?_; refine J.bl hΓ (fun _ => ?_)) | (refine J.o 10 ?_; refine J.ev' hΓ ?_) | (refine J.o 11 ?_; refine J.ev' hΓ ?_)))
      | (first | refine JC.seq ?_ | refine JC.region ?_ | refine JC.ret ?_ | refine JC.skip ?_ | refine thenK.nn ?_ | refine thenK.r ?_ | refine JC.condT rfl ?_ | refine JC.condF rfl ?_ | refine drawK.nn ?_)
      | (fail)
      | fail
    all_goals first | (exfalso; omega) | skip
    all_goals first | refine ret0 rfl (fun w1 hw => ⟨_, _, rfl, hw, out, ao, co, hO, hM, rfl, rfl, nod, rng, oo, mp, ⟨fun x hx => hx, hin, fun x hx => .inl hx, fun x hx => .inl hx⟩⟩) | refine ret0n rfl (fun w1 hw => ⟨_, _, rfl, hw, out, ao, co, hO, hM, rfl, rfl, nod, rng, oo, mp, ⟨fun x hx => hx, hin, fun x hx => .inl hx, fun x hx => .inl hx⟩⟩)
  · rw [if_neg hin] at hget
    have hb2 : 2 ≤ b := by omega
    have hlen : (natI out).length = out.length := by unfold natI; rw [List.length_map]
    have hlen2 : (natI out ++ [(b : Int)]).length = out.length + 1 := by rw [List.length_append, hlen]; rfl
    have ho128 : out.length ≤ 1048576 := Nat.le_trans (nodup_len nod rng) sm
    refine calls_in Tryz.func76 Tryz.ntmps76 rfl rfl (hw) ?_
    unfold outO
    repeat' first
      | (refine J.isJ ?_; first | (first | (refine J.o 4 ?_; first | refine J.lR hΓ ?_ (hr := r5'.tl.tl.tl) | refine J.lR hΓ ?_ (hr := Rd.hd.tl)) | (refine J.o 9 ?_; refine J.lk (a := (b : Int)) keyedI ekI_inj mp (by first | exact RdH.hd | exact RdH.hd.tl | exact RdH.hd.tl.tl | exact RdH.hd.tl.tl.tl | exact RdH.hd.tl.tl.tl.tl | exact RdH.hd.tl.tl.tl.tl.tl | exact RdH.hd.tl.tl.tl.tl.tl.tl | exact RdH.hd.tl.tl.tl.tl.tl.tl.tl | exact RdH.old (fun _ hh => hh) | assumption) hkey hΓ ?_; rw [hget]) | (refine J.o 9 ?_; refine J.perm br2 ?_; refine J.mup (a := (b : Int)) (ev := evBo) true keyedI ekI_inj mp hkey hΓ (fun h3 mp3 => ?_)) | ((refine J.o 9 ?_; first | (first | (refine J.ap1 (enc := encI) [(b : Int)] hΓ (fun a2 k2 h2 o2 => ?_)) | (refine J.perm (br1.cons _) ?_; refine J.ap1 (enc := encI) [(b : Int)] hΓ (fun a2 k2 h2 o2 => ?_)) | (refine J.perm (br2.cons _) ?_; refine J.ap1 (enc := encI) [(b : Int)] hΓ (fun a2 k2 h2 o2 => ?_)) | (refine J.perm (br3.cons _) ?_; refine J.ap1 (enc := encI) [(b : Int)] hΓ (fun a2 k2 h2 o2 => ?_)) | (refine J.perm (br4.cons _) ?_; refine J.ap1 (enc := encI) [(b : Int)] hΓ (fun a2 k2 h2 o2 => ?_)) | (refine J.perm (br5.cons _) ?_; refine J.ap1 (enc := encI) [(b : Int)] hΓ (fun a2 k2 h2 o2 => ?_))) | (refine J.perm br1 ?_; first | (refine J.ap1 (enc := encI) [(b : Int)] hΓ (fun a2 k2 h2 o2 => ?_)) | (refine J.perm (br1.cons _) ?_; refine J.ap1 (enc := encI) [(b : Int)] hΓ (fun a2 k2 h2 o2 => ?_)) | (refine J.perm (br2.cons _) ?_; refine J.ap1 (enc := encI) [(b : Int)] hΓ (fun a2 k2 h2 o2 => ?_)) | (refine J.perm (br3.cons _) ?_; refine J.ap1 (enc := encI) [(b : Int)] hΓ (fun a2 k2 h2 o2 => ?_)) | (refine J.perm (br4.cons _) ?_; refine J.ap1 (enc := encI) [(b : Int)] hΓ (fun a2 k2 h2 o2 => ?_)) | (refine J.perm (br5.cons _) ?_; refine J.ap1 (enc := encI) [(b : Int)] hΓ (fun a2 k2 h2 o2 => ?_))) | (refine J.perm br2 ?_; first | (refine J.ap1 (enc := encI) [(b : Int)] hΓ (fun a2 k2 h2 o2 => ?_)) | (refine J.perm (br1.cons _) ?_; refine J.ap1 (enc := encI) [(b : Int)] hΓ (fun a2 k2 h2 o2 => ?_)) | (refine J.perm (br2.cons _) ?_; refine J.ap1 (enc := encI) [(b : Int)] hΓ (fun a2 k2 h2 o2 => ?_)) | (refine J.perm (br3.cons _) ?_; refine J.ap1 (enc := encI) [(b : Int)] hΓ (fun a2 k2 h2 o2 => ?_)) | (refine J.perm (br4.cons _) ?_; refine J.ap1 (enc := encI) [(b : Int)] hΓ (fun a2 k2 h2 o2 => ?_)) | (refine J.perm (br5.cons _) ?_; refine J.ap1 (enc := encI) [(b : Int)] hΓ (fun a2 k2 h2 o2 => ?_)))); rw [hlen2])) | (first | (refine J.o 0 ?_; refine J.ev' hΓ ?_) | refine J.nil ?_ | (refine J.o 4 ?_; first | refine J.lT default hΓ ?_ | refine J.lR hΓ ?_) | (refine J.o 3 ?_; first | refine J.iJ hΓ ?_ | refine J.fP hΓ ?_ | refine J.ev' hΓ ?_) | (refine J.o 5 ?_; first | refine J.t2 hΓ ?_) | (refine J.o 9 ?_; refine J.bl hΓ (fun _ => ?_)) | (refine J.o 10 ?_; refine J.ev' hΓ ?_) | (refine J.o 11 ?_; refine J.ev' hΓ ?_)))
      | (first | refine JC.seq ?_ | refine JC.region ?_ | refine JC.ret ?_ | refine JC.skip ?_ | refine thenK.nn ?_ | refine thenK.r ?_ | refine JC.condT rfl ?_ | refine JC.condF rfl ?_ | refine drawK.nn ?_)
      | (fail)
      | fail
    rw [seen_put hin] at mp3
    have hnat : natI out ++ [(b : Int)] = natI (out ++ [b]) := by unfold natI; rw [List.map_append]; rfl
    rw [hnat] at o2
    have hpb := so.wf.pl b hb2 hb
    have hlp := so.wf.lp b hb2 hb
    have hhp := so.wf.hp b hb2 hb
    have hll := so.wf.ll b hb2 hb
    have hlh := so.wf.hl b hb2 hb
    have hl1 : (out ++ [b]).length = out.length + 1 := by simp
    have nod1 : (out ++ [b]).Nodup := by
      rw [List.nodup_append]
      refine ⟨nod, by simp, fun x hx y hy => ?_⟩
      rw [List.mem_singleton.1 hy]
      intro e; subst e
      exact hin (.inr hx)
    have rng1 : ∀ x ∈ out ++ [b], x < s.ns.length := fun x hx => by
      rcases List.mem_append.1 hx with h | h
      · exact rng x h
      · rw [List.mem_singleton.1 h]; exact hb
    repeat' first
      | (refine J.isJ ?_; first | (first | (refine J.o 4 ?_; first | refine J.lR hΓ ?_ (hr := r7'.tl.tl.tl) | refine J.lR hΓ ?_ (hr := r2'.tl.tl.tl) | refine J.lR hΓ ?_ (hr := rb'.tl.tl.tl) | refine J.lT default hΓ ?_ (hs := hsl) (hr := rn.tl.tl.tl))) | (first | (refine J.o 0 ?_; refine J.ev' hΓ ?_) | refine J.nil ?_ | (refine J.o 4 ?_; first | refine J.lT default hΓ ?_ | refine J.lR hΓ ?_) | (refine J.o 3 ?_; first | refine J.iJ hΓ ?_ | refine J.fP hΓ ?_ | refine J.ev' hΓ ?_) | (refine J.o 5 ?_; first | refine J.t2 hΓ ?_) | (refine J.o 9 ?_; refine J.bl hΓ (fun _ => ?_)) | (refine J.o 10 ?_; refine J.ev' hΓ ?_) | (refine J.o 11 ?_; refine J.ev' hΓ ?_)))
      | (first | refine JC.seq ?_ | refine JC.region ?_ | refine JC.ret ?_ | refine JC.skip ?_ | refine thenK.nn ?_ | refine thenK.r ?_ | refine JC.condT rfl ?_ | refine JC.condF rfl ?_ | refine drawK.nn ?_)
      | ((refine JC.drawO [(1,0),(1,1),(0,2),(0,3),(1,4),(0,5),(0,6),(0,7),(1,8),(2,9)] (by kernel_rfl) (by kernel_rfl) ?_))
      | fail
    refine J.isJ ?_
    refine J.o 9 ?_
    refine J.callvx eVisit rfl rfl rfl (fun w hw => ih _ (by omega) (nd s.ns b).l rfl hll (out ++ [b]) a2 k2 h2 h3 nod1 rng1 o2 mp3 (by rw [hl1]; exact hw.perm br2) r5 r7 r2 rb rn) ?_
    rintro _ _ ⟨out1, a3, k3, hO1, hM1, rfl, rfl, nod2, rng2, oo1, mp4, vis1⟩
    unfold outO
    repeat' first
      | (refine J.isJ ?_; first | (first | (refine J.o 4 ?_; first | refine J.lR hΓ ?_ (hr := r7'.tl.tl.tl) | refine J.lR hΓ ?_ (hr := r2'.tl.tl.tl) | refine J.lR hΓ ?_ (hr := rb'.tl.tl.tl) | refine J.lT default hΓ ?_ (hs := hsl) (hr := rn.tl.tl.tl))) | (first | (refine J.o 0 ?_; refine J.ev' hΓ ?_) | refine J.nil ?_ | (refine J.o 4 ?_; first | refine J.lT default hΓ ?_ | refine J.lR hΓ ?_) | (refine J.o 3 ?_; first | refine J.iJ hΓ ?_ | refine J.fP hΓ ?_ | refine J.ev' hΓ ?_) | (refine J.o 5 ?_; first | refine J.t2 hΓ ?_) | (refine J.o 9 ?_; refine J.bl hΓ (fun _ => ?_)) | (refine J.o 10 ?_; refine J.ev' hΓ ?_) | (refine J.o 11 ?_; refine J.ev' hΓ ?_)))
      | (first | refine JC.seq ?_ | refine JC.region ?_ | refine JC.ret ?_ | refine JC.skip ?_ | refine thenK.nn ?_ | refine thenK.r ?_ | refine JC.condT rfl ?_ | refine JC.condF rfl ?_ | refine drawK.nn ?_)
      | ((refine JC.drawO [(1,0),(1,1),(0,2),(0,3),(1,4),(0,5),(0,6),(0,7),(1,8),(2,9)] (by kernel_rfl) (by kernel_rfl) ?_))
      | fail
    refine J.isJ ?_
    refine J.o 9 ?_
    refine J.callvx eVisit rfl rfl rfl (fun w hw => ih _ (by omega) (nd s.ns b).h rfl hlh out1 a3 k3 hO1 hM1 nod2 rng2 oo1 mp4 hw r5 r7 r2 rb rn) ?_
    rintro _ _ ⟨out2, a4, k4, hO2, hM2, rfl, rfl, nod3, rng3, oo2, mp5, vis2⟩
    unfold outO
    repeat' first
      | (refine J.isJ ?_; first | (fail) | (first | (refine J.o 0 ?_; refine J.ev' hΓ ?_) | refine J.nil ?_ | (refine J.o 4 ?_; first | refine J.lT default hΓ ?_ | refine J.lR hΓ ?_) | (refine J.o 3 ?_; first | refine J.iJ hΓ ?_ | refine J.fP hΓ ?_ | refine J.ev' hΓ ?_) | (refine J.o 5 ?_; first | refine J.t2 hΓ ?_) | (refine J.o 9 ?_; refine J.bl hΓ (fun _ => ?_)) | (refine J.o 10 ?_; refine J.ev' hΓ ?_) | (refine J.o 11 ?_; refine J.ev' hΓ ?_)))
      | (first | refine JC.seq ?_ | refine JC.region ?_ | refine JC.ret ?_ | refine JC.skip ?_ | refine thenK.nn ?_ | refine thenK.r ?_ | refine JC.condT rfl ?_ | refine JC.condF rfl ?_ | refine drawK.nn ?_)
      | (fail)
      | fail
    all_goals first | refine ret0 rfl (fun w1 hw => ⟨_, _, rfl, hw, out2, a4, k4, hO2, hM2, rfl, rfl, nod3, rng3, oo2, mp5, Vis.join hb2 vis1 vis2⟩) | refine ret0n rfl (fun w1 hw => ⟨_, _, rfl, hw, out2, a4, k4, hO2, hM2, rfl, rfl, nod3, rng3, oo2, mp5, Vis.join hb2 vis1 vis2⟩)
end Go.Proofs.YtbhgahjeocnfcaaGreat
namespace Go.Proofs
open Go.Shelf
def Tryz.lays125_ren : Go.Shelf.Ren := ⟨fun | 125 => 64 | 128 => 92 | 129 => 93 | n => n, fun | 46 => 78 | 3 => 3 | 51 => 121 | 53 => 42 | 4 => 4 | 5 => 5 | 9 => 9 | n => n, fun | n => n⟩
theorem Tryz.lays125 : Go.Proofs.Lays.n125 Tryz.prog Tryz.lays125_ren := {
  mixed := by kernel_rfl
  f125 := Tryz.func64.trans (congrArg some (by kernel_rfl))
  f128 := Tryz.func92.trans (congrArg some (by kernel_rfl))
  f129 := Tryz.func93.trans (congrArg some (by kernel_rfl))
  t3 := Tryz.underlying3
  a3 := Tryz.isAgg3
  z3 := Tryz.sizeOf3
  v3 := Tryz.zeroValue3
  t4 := Tryz.underlying4
  a4 := Tryz.isAgg4
  z4 := Tryz.sizeOf4
  v4 := Tryz.zeroValue4
  t5 := Tryz.underlying5
  a5 := Tryz.isAgg5
  z5 := Tryz.sizeOf5
  v5 := Tryz.zeroValue5
  t9 := Tryz.underlying9
  a9 := Tryz.isAgg9
  z9 := Tryz.sizeOf9
  v9 := Tryz.zeroValue9
  t46 := Tryz.underlying78
  a46 := Tryz.isAgg78
  z46 := Tryz.sizeOf78
  v46 := Tryz.zeroValue78
  t51 := Tryz.underlying121
  a51 := Tryz.isAgg121
  z51 := Tryz.sizeOf121
  v51 := Tryz.zeroValue121
  t53 := Tryz.underlying42
  a53 := Tryz.isAgg42
  z53 := Tryz.sizeOf42
  v53 := Tryz.zeroValue42 }
theorem Tryz.bits_Len (x : Int) (w : World) (h0 : 0 ≤ x) (h1 : x ≤ 18446744073709551615) :
    Calls Tryz.prog 64 #[.int .u64 x] w fun e w' => e = .returned (.int .i64 (Lib.bitLen x.toNat)) ∧ w' = w := Any.bits_Len Tryz.lays125 x w h0 h1
def Tryz.lays189_ren : Go.Shelf.Ren := ⟨fun | 189 => 77 | 125 => 64 | 257 => 104 | 128 => 92 | 129 => 93 | 294 => 116 | 295 => 117 | 296 => 118 | 297 => 119 | 298 => 120 | 299 => 121 | 216 => 122 | 300 => 123 | 301 => 124 | 328 => 132 | 329 => 107 | 330 => 108 | 331 => 133 | 332 => 134 | 215 => 135 | 343 => 137 | n => n, fun | 28 => 28 | 3 => 3 | 46 => 78 | 0 => 0 | 51 => 121 | 53 => 42 | 4 => 4 | 183 => 132 | 182 => 131 | 131 => 102 | 5 => 5 | 9 => 9 | 218 => 148 | 222 => 152 | 228 => 160 | 229 => 161 | n => n, fun | n => n⟩
theorem Tryz.lays189 : Go.Proofs.Lays.n189 Tryz.prog Tryz.lays189_ren := {
  mixed := by kernel_rfl
  f125 := Tryz.func64.trans (congrArg some (by kernel_rfl))
  f128 := Tryz.func92.trans (congrArg some (by kernel_rfl))
  f129 := Tryz.func93.trans (congrArg some (by kernel_rfl))
  f189 := Tryz.func77.trans (congrArg some (by kernel_rfl))
  f215 := Tryz.func135.trans (congrArg some (by kernel_rfl))
  f216 := Tryz.func122.trans (congrArg some (by kernel_rfl))
  f257 := Tryz.func104.trans (congrArg some (by kernel_rfl))
  f294 := Tryz.func116.trans (congrArg some (by kernel_rfl))
  f295 := Tryz.func117.trans (congrArg some (by kernel_rfl))
  f296 := Tryz.func118.trans (congrArg some (by kernel_rfl))
  f297 := Tryz.func119.trans (congrArg some (by kernel_rfl))
  f298 := Tryz.func120.trans (congrArg some (by kernel_rfl))
  f299 := Tryz.func121.trans (congrArg some (by kernel_rfl))
  f300 := Tryz.func123.trans (congrArg some (by kernel_rfl))
  f301 := Tryz.func124.trans (congrArg some (by kernel_rfl))
  f328 := Tryz.func132.trans (congrArg some (by kernel_rfl))
  f329 := Tryz.func107.trans (congrArg some (by kernel_rfl))
  f330 := Tryz.func108.trans (congrArg some (by kernel_rfl))
  f331 := Tryz.func133.trans (congrArg some (by kernel_rfl))
  f332 := Tryz.func134.trans (congrArg some (by kernel_rfl))
  f343 := Tryz.func137.trans (congrArg some (by kernel_rfl))
  t0 := Tryz.underlying0
  a0 := Tryz.isAgg0
  z0 := Tryz.sizeOf0
  v0 := Tryz.zeroValue0
  t3 := Tryz.underlying3
  a3 := Tryz.isAgg3
  z3 := Tryz.sizeOf3
  v3 := Tryz.zeroValue3
  t4 := Tryz.underlying4
  a4 := Tryz.isAgg4
  z4 := Tryz.sizeOf4
  v4 := Tryz.zeroValue4
  t5 := Tryz.underlying5
  a5 := Tryz.isAgg5
  z5 := Tryz.sizeOf5
  v5 := Tryz.zeroValue5
  t9 := Tryz.underlying9
  a9 := Tryz.isAgg9
  z9 := Tryz.sizeOf9
  v9 := Tryz.zeroValue9
  t28 := Tryz.underlying28
  a28 := Tryz.isAgg28
  z28 := Tryz.sizeOf28
  v28 := Tryz.zeroValue28
  t46 := Tryz.underlying78
  a46 := Tryz.isAgg78
  z46 := Tryz.sizeOf78
  v46 := Tryz.zeroValue78
  t51 := Tryz.underlying121
  a51 := Tryz.isAgg121
  z51 := Tryz.sizeOf121
  v51 := Tryz.zeroValue121
  t53 := Tryz.underlying42
  a53 := Tryz.isAgg42
  z53 := Tryz.sizeOf42
  v53 := Tryz.zeroValue42
  t131 := Tryz.underlying102
  a131 := Tryz.isAgg102
  z131 := Tryz.sizeOf102
  v131 := Tryz.zeroValue102
  t182 := Tryz.underlying131
  a182 := Tryz.isAgg131
  z182 := Tryz.sizeOf131
  v182 := Tryz.zeroValue131
  t183 := Tryz.underlying132
  a183 := Tryz.isAgg132
  z183 := Tryz.sizeOf132
  v183 := Tryz.zeroValue132
  t218 := Tryz.underlying148
  a218 := Tryz.isAgg148
  z218 := Tryz.sizeOf148
  v218 := Tryz.zeroValue148
  t222 := Tryz.underlying152
  a222 := Tryz.isAgg152
  z222 := Tryz.sizeOf152
  v222 := Tryz.zeroValue152
  t228 := Tryz.underlying160
  a228 := Tryz.isAgg160
  z228 := Tryz.sizeOf160
  v228 := Tryz.zeroValue160
  t229 := Tryz.underlying161
  a229 := Tryz.isAgg161
  z229 := Tryz.sizeOf161
  v229 := Tryz.zeroValue161 }
open Go.Sort Go.RowKit in
theorem Tryz.slices_Sort_int (blk off cap : Nat) (zs : List Int) (w : World) (hH : Holds (Value.int .i64) w blk off zs.toArray) (hblk : blk < w.heap.size) (hsz : zs.length < 4611686018427387904) :
    Calls Tryz.prog 77 #[.slice (some ⟨blk, off, none⟩) zs.length cap] w fun e w' =>
      e = .returned (.tuple #[]) ∧ ∃ n os, w' = grow (putRow (Value.int .i64) (Sort.ahead w n) blk off (zs.mergeSort fun x y => decide (x ≤ y)).toArray) os := Any.slices_Sort_int Tryz.lays189 blk off cap zs w hH hblk hsz
open Go.RowKit Go.Sort in
theorem Tryz.slices_Sort_int_none (p : Option Addr) (cap : Nat) (w : World) :
    Calls Tryz.prog 77 #[.slice p 0 cap] w fun e w' => e = .returned (.tuple #[]) ∧ w' = w := Any.slices_Sort_int_none Tryz.lays189 p cap w
def Tryz.laysSlH10_f96_ren : Go.Shelf.Ren := ⟨fun | 10 => 96 | 6 => 105 | n => n, fun | 22 => 28 | 23 => 3 | 25 => 128 | 3 => 3 | 4 => 4 | 0 => 0 | n => n, fun | n => n⟩
theorem Tryz.laysSlH10_f96 : Go.Proofs.SlLaysH.n10 Tryz.prog Tryz.laysSlH10_f96_ren := {
  mixed := by kernel_rfl
  f6 := ⟨Tryz.f105.name, by decide, Tryz.func105.trans (congrArg some (by kernel_rfl))⟩
  f10 := ⟨Tryz.f96.name, by decide, Tryz.func96.trans (congrArg some (by kernel_rfl))⟩
  t0 := Tryz.underlying0
  a0 := Tryz.isAgg0
  z0 := Tryz.sizeOf0
  v0 := Tryz.zeroValue0
  t3 := Tryz.underlying3
  a3 := Tryz.isAgg3
  z3 := Tryz.sizeOf3
  v3 := Tryz.zeroValue3
  t4 := Tryz.underlying4
  a4 := Tryz.isAgg4
  z4 := Tryz.sizeOf4
  v4 := Tryz.zeroValue4
  t22 := Tryz.underlying28
  a22 := Tryz.isAgg28
  z22 := Tryz.sizeOf28
  v22 := Tryz.zeroValue28
  a23 := Tryz.isAgg3
  z23 := Tryz.sizeOf3
  t25 := Tryz.underlying128
  a25 := Tryz.isAgg128
  z25 := Tryz.sizeOf128
  v25 := Tryz.zeroValue128 }
open Go.RowKit Go.Lib Go.Sort in
theorem Tryz.slices_DeleteFunc {α : Type} [Inhabited α] (enc : α → Value) (hO : OneCell enc) (p : α → Bool) (g : Nat) (lb : Array Value) (eg : ∀ args w, (callFunc g args).run Tryz.prog w = .ok (.enter g args) w) (zr : α) (v23 : ∀ w, (zeroValue 3).run Tryz.prog w = .ok (enc zr) w) (blk off cap : Nat) (d : Array α) (w : World) (hp : PredAt Tryz.prog g lb enc p w) (hpo : PredOver Tryz.prog g lb enc p blk off d.size w) (hH : Holds enc w blk off d) (hsz : d.size ≤ 9223372036854775807) (hcap : d.size ≤ cap) :
    Calls Tryz.prog 96 #[.slice (some ⟨blk, off, none⟩) d.size cap, .func (.func g) #[] lb] w fun e w' => e = .returned (.slice (some ⟨blk, off, none⟩) (d.toList.filter fun x => !p x).length cap) ∧ ∃ q, w' = putRow enc (Sort.ahead w q) blk off ((d.toList.filter fun x => !p x) ++ List.replicate (d.size - (d.toList.filter fun x => !p x).length) zr).toArray := AnyE.slices_DeleteFunc Tryz.laysSlH10_f96 enc hO p g lb eg zr v23 blk off cap d w hp hpo hH hsz hcap
end Go.Proofs
namespace Go.Proofs.YtbhgahjeocnfcaaGreat
open Go Go.Cx Go.RowKit
set_option linter.unusedVariables false
set_option linter.unusedSimpArgs false
set_option maxHeartbeats 4000000
attribute [local irreducible] J JC thenK blockK loopK roundK drawK retK QW Qt pel List.set Calls
open Go.Maps Go.Lib
set_option maxRecDepth 8000
attribute [local irreducible] JE Br eK0 eK3 brK pc
def insS : List Int → Int → List Int
  | [], x => [x]
  | y :: l, x => if x < y then x :: y :: l else y :: insS l x
def sortS (l : List Int) : List Int := l.foldl insS []
theorem insS_perm : ∀ (l : List Int) (x : Int), (insS l x).Perm (x :: l)
  | [], x => .refl _
  | y :: l, x => by
    unfold insS
    split
    · exact .refl _
    · exact ((insS_perm l x).cons y).trans (.swap _ _ _)
theorem insS_sorted : ∀ (l : List Int) (x : Int), l.Pairwise (· ≤ ·) → (insS l x).Pairwise (· ≤ ·)
  | [], x, _ => by simp [insS]
  | y :: l, x, h => by
    unfold insS
    rw [List.pairwise_cons] at h
    split
    · rename_i hxy
      refine List.pairwise_cons.2 ⟨fun z hz => ?_, List.pairwise_cons.2 h⟩
      rcases List.mem_cons.1 hz with rfl | hz
      · omega
      · have := h.1 z hz; omega
    · rename_i hxy
      refine List.pairwise_cons.2 ⟨fun z hz => ?_, insS_sorted l x h.2⟩
      have := (insS_perm l x).mem_iff.1 hz
      rcases List.mem_cons.1 this with rfl | hz
      · omega
      · exact h.1 z hz
theorem sortS_go : ∀ (l acc : List Int), acc.Pairwise (· ≤ ·) → (l.foldl insS acc).Perm (acc ++ l) ∧ (l.foldl insS acc).Pairwise (· ≤ ·)
  | [], acc, h => ⟨by simp, h⟩
  | x :: l, acc, h => by
    have ih := sortS_go l (insS acc x) (insS_sorted acc x h)
    refine ⟨ih.1.trans ?_, ih.2⟩
    refine ((insS_perm acc x).append_right l).trans ?_
    exact (List.perm_middle).symm
theorem sortS_perm (l : List Int) : (sortS l).Perm l := by simpa [sortS] using (sortS_go l [] List.Pairwise.nil).1
theorem sortS_sorted (l : List Int) : (sortS l).Pairwise (· ≤ ·) := (sortS_go l [] List.Pairwise.nil).2
theorem sort_eq : ∀ (a b : List Int), a.Perm b → a.Pairwise (· ≤ ·) → b.Pairwise (· ≤ ·) → a = b
  | [], b, h, _, _ => (List.Perm.nil_eq h)
  | x :: a, [], h, _, _ => absurd h.length_eq (by simp)
  | x :: a, y :: b, h, h1, h2 => by
    rw [List.pairwise_cons] at h1 h2
    have e : x = y := by
      have hx := h.mem_iff.1 (List.mem_cons_self (a := x) (l := a))
      have hy := h.mem_iff.2 (List.mem_cons_self (a := y) (l := b))
      rcases List.mem_cons.1 hx with hx | hx
      · exact hx
      · rcases List.mem_cons.1 hy with hy | hy
        · exact hy.symm
        · have := h1.1 y hy; have := h2.1 x hx; omega
    subst e
    rw [sort_eq a b (List.Perm.cons_inv h) h1.2 h2.2]
theorem sort_ms (l : List Int) : l.mergeSort (fun x y => decide (x ≤ y)) = sortS l := by
  refine sort_eq _ _ ((List.mergeSort_perm l _).trans (sortS_perm l).symm) ?_ (sortS_sorted l)
  have := List.pairwise_mergeSort (le := fun x y : Int => decide (x ≤ y)) (fun a b c h1 h2 => by simp only [decide_eq_true_eq] at *; omega) (fun a b => by simp only [Bool.or_eq_true, decide_eq_true_eq]; omega) l
  exact this.imp (fun h => by simpa using h)
theorem sortS_len (l : List Int) : (sortS l).length = l.length := (sortS_perm l).length_eq
theorem eSort : Entr Tryz.prog 77 := Entr.of Tryz.func77 rfl rfl
theorem intsFlat (l : List Int) : l.flatMap encI = l.map (Value.int .i64) := by
  induction l with
  | nil => rfl
  | cons x l ih => rw [List.flatMap_cons, ih]; rfl
theorem sort_own {ao : Option Addr} {co : Nat} {l : List Int} {hO : Heap} (oo : OwT encI 1 3 ao co l hO) (hl : l.length ≤ 10000000000000) {w0 w : World} {R : Heap} {L : List Heap} (hw : H w0 R (hO :: L) w) :
    Calls Tryz.prog 77 #[.slice ao l.length co] w fun e w' => ∃ v' L', e = .returned v' ∧ H w0 R L' w' ∧ ∃ hO', v' = .tuple #[] ∧ L' = hO' :: L ∧ OwT encI 1 3 ao co (sortS l) hO' := by
  by_cases h0 : l.length = 0
  · have hn : l = [] := List.eq_nil_of_length_eq_zero h0
    subst hn
    refine (Tryz.slices_Sort_int_none ao co w).mono ?_
    rintro e w' ⟨rfl, rfl⟩
    exact ⟨_, _, rfl, hw, hO, rfl, rfl, oo⟩
  rcases oo.row with ⟨rfl, rfl, rfl, rfl⟩ | ⟨g, cs, rfl, rfl, h1, h2, h3⟩
  · exact absurd rfl h0
  have hb : w.heap[g]? = some (.cells ⟨cs⟩ 3 (0, 0)) := hw.rd Rd.hd
  have hgl : g < w.heap.size := (Array.getElem?_eq_some_iff.1 hb).1
  rw [intsFlat, Nat.mul_one] at h3
  have hcell : ∀ j (hj : j < l.length), cs[j]? = some (.int .i64 l[j]) := fun j hj => by
    have : (cs.take l.length)[j]? = (l.map (Value.int .i64))[j]? := by rw [h3]
    rw [List.getElem?_take_of_lt hj, List.getElem?_map, List.getElem?_eq_getElem hj] at this
    exact this
  have hH : Sort.Holds (Value.int .i64) w g 0 l.toArray := fun j hj => by
    have hj' : j < l.length := by simpa using hj
    constructor
    · simp [World.cell?, hb, hcell j hj', hj']
    · simp [World.frozen?, hb]
  refine (Tryz.slices_Sort_int g 0 co l w hH hgl (by omega)).mono ?_
  rintro e w' ⟨rfl, n, os, rfl⟩
  rw [sort_ms]
  have hsl := sortS_len l
  have hnew : Sort.putCells (Value.int .i64) 0 (sortS l).toArray ⟨cs⟩ = ⟨(sortS l).map (Value.int .i64) ++ cs.drop l.length⟩ := by
    unfold Sort.putCells
    apply Array.ext
    · simp; omega
    · intro i hi1 hi2
      simp only [Array.getElem_mapIdx, Nat.zero_le, true_and, Nat.zero_add, List.size_toArray, Nat.sub_zero]
      by_cases hi : i < (sortS l).length
      · rw [if_pos hi]
        simp [hi]
      · rw [if_neg hi]
        simp only [List.getElem_toArray]
        rw [List.getElem_append_right (by simpa using hi)]
        simp only [List.length_map, List.getElem_drop]
        congr 1
        omega
  refine ⟨_, [(g, .cells ⟨(sortS l).map (Value.int .i64) ++ cs.drop l.length⟩ 3 (0, 0))] :: L, rfl, ?_, _, rfl, rfl, ⟨oo.len, .inr ⟨g, _, rfl, rfl, ?_, by omega, ?_⟩⟩⟩
  · have h5 : H w0 R ([(g, .cells ⟨(sortS l).map (Value.int .i64) ++ cs.drop l.length⟩ 3 (0, 0))] :: L) (Sort.putRow (Value.int .i64) (Sort.ahead w n) g 0 (sortS l).toArray) := by
      refine hw.write (o' := .cells ⟨(sortS l).map (Value.int .i64) ++ cs.drop l.length⟩ 3 (0, 0)) rfl rfl rfl ?_ ?_ ?_
      · simp [Sort.putRow, Sort.mapBlock, Sort.ahead]
      · show (w.heap.modify g _)[g]? = _
        rw [Array.getElem?_modify, if_pos rfl, hb]
        show some (Obj.cells (Sort.putCells _ _ _ _) _ _) = _
        rw [hnew]
      · intro k hk
        show (w.heap.modify g _)[k]? = _
        rw [Array.getElem?_modify, if_neg (Ne.symm hk)]
    exact h5.grow (Lib.below_grow _ _ (Nat.le_refl _) 0 os)
  · simp; omega
  · rw [intsFlat, Nat.mul_one, List.take_left' (by simp)]
structure Bel (ns : List N3) (a : Nat) (l : List Int) : Prop where
  nodup : l.Nodup
  sorted : l.Pairwise (· ≤ ·)
  mem : ∀ x : Int, x ∈ l ↔ ∃ j : Nat, x = (j : Int) ∧ 2 ≤ j ∧ Rch ns a j
theorem Bel.of {ns : List N3} {a : Nat} {o : List Nat} (hn : o.Nodup) (v : Vis ns [] o a) : Bel ns a (sortS (natI o)) := by
  have hp := sortS_perm (natI o)
  have hn2 : (natI o).Nodup := by
    unfold natI
    rw [List.Nodup, List.pairwise_map]
    exact hn.imp fun h e => h (by omega)
  refine ⟨hp.nodup_iff.2 hn2, sortS_sorted _, fun x => ?_⟩
  rw [hp.mem_iff]
  unfold natI
  rw [List.mem_map]
  constructor
  · rintro ⟨j, hj, rfl⟩
    exact ⟨j, rfl, (v.all j).1 hj⟩
  · rintro ⟨j, rfl, h⟩
    exact ⟨j, (v.all j).2 h, rfl⟩
theorem below_any {n : Nat} {K : KS} {s : SS} (so : SOk n K s) (b0 a : Nat) (ha : a < s.ns.length) {w0 w : World} {R : Heap} {L : List Heap} (rb : Rd R L b0 (stO K s.an s.ns.length s.cn)) (rn : RdH R L s.hN) (hw : H w0 R L w) :
    Calls Tryz.prog 48 #[.pointer (some ⟨b0, 0, none⟩), .int .i64 (a : Int)] w fun e w' => ∃ v L', e = .returned v ∧ H w0 R L' w' ∧ ∃ ao co l hO, v = .slice ao l.length co ∧ L' = hO :: L ∧ OwT encI 1 3 ao co l hO ∧ Bel s.ns a l := by
  have sm := so.sm
  refine calls_in Tryz.func48 Tryz.ntmps48 rfl rfl (hw) ?_
  repeat' first
    | (refine J.isJ ?_; first | (first | (refine J.o 6 ?_; refine J.bx (fun c2 => ?_)) | (refine J.o 9 ?_; first | refine J.mkm (fun bm => ?_) | refine J.ins (ev := evBo) true keyedI ekI_inj (MapT.nil _) (keyI 0 (by omega)) hΓ (fun h1 mp1 => ?_) | refine J.ins (ev := evBo) true keyedI ekI_inj mp1 (keyI 1 (by omega)) hΓ (fun h2 mp2 => ?_) | (refine J.callvx eVisit rfl rfl rfl (fun w hw => visit_any so b0 c5 c6 c7 c2 bm _ a rfl ha [] none 0 [] h2 List.nodup_nil (fun x hx => by cases hx) (OwT.nil (fun _ => rfl)) mp2 (L := [(c7, fnV c5 c6 c7 c2)] :: [(c5, mapO bm)] :: [(c2, ptrS b0)] :: L) ((H.sel (l := [_, _, _, _, _]) (M := L) hw [1, 3, 0, 2, 4]).nilF.perm br1) Rd.hd.tl Rd.hd Rd.hd.tl.tl rb.tl.tl.tl rn.tl.tl.tl) ?_; rintro _ _ ⟨o1, a1, k1, hO1, hM1, rfl, rfl, nod1, rng1, oo1, mp3, vis1⟩; unfold outO; have hln : o1.length ≤ 1048576 := Nat.le_trans (nodup_len nod1 rng1) sm; have hnl : (natI o1).length = o1.length := List.length_map _; rw [← hnl])) | (refine J.o 7 ?_; first | refine J.al (t := 105) hΓ (fun c5 => ?_) | refine J.al (t := 28) hΓ (fun c6 => ?_) | refine J.al (t := 125) hΓ (fun c7 => ?_)) | (refine J.o 14 ?_; refine J.mfV [.pointer (some ⟨c5, 0, none⟩), .pointer (some ⟨c6, 0, none⟩), .pointer (some ⟨c7, 0, none⟩), .pointer (some ⟨c2, 0, none⟩)] hΓ ?_) | (refine J.fc 77 ?_; refine J.perm br1 ?_; refine J.callx eSort rfl rfl (fun w hw => sort_own oo1 (by omega) hw) ?_; rintro _ _ ⟨hO2, rfl, rfl, oo2⟩)) | (first | (refine J.o 0 ?_; refine J.ev' hΓ ?_) | refine J.nil ?_ | (refine J.o 4 ?_; first | refine J.lR hΓ ?_) | (refine J.o 3 ?_; first | refine J.ev' hΓ ?_) | (refine J.o 5 ?_; first | refine J.t0 hΓ ?_) | (refine J.o 6 ?_; refine J.bx (fun _ => ?_)) | (refine J.o 7 ?_; refine J.al hΓ (fun _ => ?_)) | (refine J.o 10 ?_; refine J.ev' hΓ ?_) | (refine J.o 11 ?_; refine J.ev' hΓ ?_)))
    | (first | refine JC.seq ?_ | refine JC.region ?_ | refine JC.ret ?_ | refine thenK.nn ?_)
    | (fail)
    | fail
  all_goals first | (exfalso; omega) | skip
  rw [← sortS_len]
  refine ret1f rfl rfl rfl (fun w1 hw => ⟨_, _, rfl, H.sel (l := [_, _, _, _, _, _]) (M := L) hw [0], a1, k1, sortS (natI o1), hO2, rfl, rfl, oo2, Bel.of nod1 vis1⟩)
theorem Size_any {n : Nat} {K : KS} {s : SS} (so : SOk n K s) (b0 a : Nat) (ha : a < s.ns.length) {w0 w : World} {R : Heap} {L : List Heap} (rb : Rd R L b0 (stO K s.an s.ns.length s.cn)) (rn : RdH R L s.hN) (hw : H w0 R L w) :
    Calls Tryz.prog 16 #[.pointer (some ⟨b0, 0, none⟩), .int .i64 (a : Int)] w fun e w' => ∃ v L', e = .returned v ∧ H w0 R L' w' ∧ ∃ l, v = .tuple #[.int .i64 ((l.length : Nat) : Int), .int .i64 0] ∧ L' = L ∧ Bel s.ns a l := by
  have two := so.wf.two
  have cChk : ∀ L1 w1 b1, H w0 R L1 w1 → Rd R L1 b0 (stO K s.an s.ns.length s.cn) → Rd R L1 b1 (intO a) → Calls Tryz.prog 44 #[.pointer (some ⟨b0, 0, none⟩), .slice (some ⟨b1, 0, none⟩) 1 1] w1 fun e w' => e = .returned (.int .i64 0) ∧ Below w1.heap.size w1 w' := fun L1 w1 b1 hw hb hr => by
    have hc := chk_ok (m := s.ns.length) (l := [a]) (by simp only [List.mem_cons, List.not_mem_nil, or_false, forall_eq]; exact ha)
    have := check_any K b0 s.an s.cn s.ns.length two [(b0, stO K s.an s.ns.length s.cn), (b1, intO a)] List.mem_cons_self [(a : Int)] (some ⟨b1, 0, none⟩) 1 ((slArg b1 [(a : Int)] 3).sub fun y hy => List.mem_cons_of_mem _ hy) (by show 1 ≤ 1000; omega) w1 (holds2 (hw.rd hb) (holds2 (hw.rd hr) (Holds.nil _)))
    rw [show chkP s.ns.length [(a : Int)] = true from hc, if_pos rfl] at this
    exact this
  refine calls_in Tryz.func16 Tryz.ntmps16 rfl rfl (hw) ?_
  repeat' first
    | (refine J.isJ ?_; first | (first | (refine J.o 9 ?_; refine J.bl hΓ (fun b1 => ?_)) | (refine J.fc 44 ?_; refine J.call0 eCheck rfl rfl (fun w hw => cChk _ w _ hw rb.tl Rd.hd) ?_) | (refine J.fc 48 ?_; refine J.callx eBelow rfl rfl (fun w hw => below_any so b0 a ha rb.tl rn.tl hw) ?_; rintro _ _ ⟨ao, co, l, hO, rfl, rfl, oo, bel⟩)) | (first | (refine J.o 0 ?_; refine J.ev' hΓ ?_) | refine J.nil ?_ | (refine J.o 3 ?_; first | refine J.ev' hΓ ?_) | (refine J.o 9 ?_; refine J.bl hΓ (fun _ => ?_)) | (refine J.o 10 ?_; refine J.ev' hΓ ?_) | (refine J.o 11 ?_; refine J.ev' hΓ ?_)))
    | (first | refine JC.seq ?_ | refine JC.region ?_ | refine JC.ret ?_ | refine JC.skip ?_ | refine thenK.nn ?_ | refine JC.condF rfl ?_)
    | (fail)
    | fail
  all_goals first | (exfalso; omega) | skip
  refine ret2f rfl rfl rfl rfl rfl (fun w1 hw => ⟨_, _, rfl, hw.drop.drop, l, rfl, rfl, bel⟩)
end Go.Proofs.YtbhgahjeocnfcaaGreat
namespace Go.Proofs.YtbhgahjeocnfcaaGreat
open Go Go.Cx Go.RowKit
set_option linter.unusedVariables false
set_option linter.unusedSimpArgs false
set_option maxHeartbeats 4000000
attribute [local irreducible] J JC thenK blockK loopK roundK drawK retK QW Qt pel List.set Calls
open Go.Maps
set_option maxRecDepth 8000
attribute [local irreducible] JE Br eK0 eK3 brK pc
section
variable {P : Program} {n : Nat} {w0 : World} {R : Heap} {K : Exit → Fr → List Heap → Prop} {f : Fr} {L L0 : List Heap} {l0 : List Oper} {rest : List (Nat × Oper)} {Γ : List (Nat × TI)}
variable {d : Nat} {ty : TypeId} {pos : String} {aft : Array Edge} {g : Option (Nat × Bool)} {t : TypeId} {x y : Operand}
theorem JD.st {ti : TI} {b off : Nat} {cs cl cs' : List Value} {e : TypeId} (hΓ : Fits P Γ) (k : JD P n w0 R L0 l0 K rest f ([(b, .cells ⟨cs'⟩ e (0, 0))] :: L)) (hg : wantB n f l0 ⟨none, .store t x y, ty, pos, aft, g⟩ = true := by exact rfl) (hp : Cx.ev n f x = .pointer (some ⟨b, off, none⟩) := by exact rfl) (ht : Cx.look Γ t = some ti := by exact rfl)
    (hv : vcells (Cx.ev n f y) = some cl := by exact rfl) (hn : Nat.beq cl.length ti.size = true := by exact rfl) (h1 : ones cl = true := by exact rfl) (hcs : putE cs off cl = some cs' := by exact rfl) : JD P n w0 R L0 l0 K ((2, ⟨none, .store t x y, ty, pos, aft, g⟩) :: rest) f ([(b, .cells ⟨cs⟩ e (0, 0))] :: L) := fun a ha w hH => by
  unfold putE at hcs
  cases hle : Nat.ble (off + cl.length) cs.length with
  | false => rw [hle] at hcs; cases hcs
  | true =>
    rw [hle] at hcs
    simp only [cond_true, forceL_eq, Option.some.injEq] at hcs
    obtain ⟨w', hr, hw'⟩ := store_ok hΓ ht hv hn h1 (Nat.le_of_ble_eq_true hle) hcs hH
    have hx : (execOp (Cx.ev n f) ⟨none, .store t x y, ty, pos, aft, g⟩).run P w = .ok .skip w' := by simp only [execOp, hp, Sem.run_bind]; rw [hr]; rfl
    have hw : Region.wanted (⟨none, .store t x y, ty, pos, aft, g⟩ : Oper) (yielded l0.toArray a.tmps) = true := by rw [ha.wanted, hg]
    unfold lop
    rw [if_pos hw]
    unfold Oper.wp
    rw [ha.eval, hx]
    exact ⟨_, hw', k _ (ha.put none undef)⟩
theorem JD.perm {L' : List Heap} {l : List (Nat × Oper)} (hp : L.Perm L') (k : JD P n w0 R L0 l0 K l f L') : JD P n w0 R L0 l0 K l f L := fun a ha => by
  have e : H w0 R L = H w0 R L' := by funext w; exact propext ⟨fun h => h.perm hp, fun h => h.perm hp.symm⟩
  rw [e]; exact k a ha
theorem JD.mkm {t : TypeId} (k : ∀ b, (∀ w, H w0 R ([(b, .map ⟨[]⟩ 0)] :: L) w → H w0 R L0 w) ∧ JD P n w0 R L0 l0 K rest (upd f d (.map (some b))) ([(b, .map ⟨[]⟩ 0)] :: L)) (hg : wantB n f l0 ⟨some d, .makeMap t none, ty, pos, aft, g⟩ = true := by exact rfl) :
    JD P n w0 R L0 l0 K ((3, ⟨some d, .makeMap t none, ty, pos, aft, g⟩) :: rest) f L := fun a ha w hH => by
  have hw : Region.wanted (⟨some d, .makeMap t none, ty, pos, aft, g⟩ : Oper) (yielded l0.toArray a.tmps) = true := by rw [ha.wanted, hg]
  have hrun : (execOp (Cx.ev n f) ⟨some d, .makeMap t none, ty, pos, aft, g⟩).run P w = .ok (.value (.map (some w.heap.size))) (w.alloc (.map ⟨[]⟩ 0)) := by simp only [execOp, Sem.run_bind, Option.map_none]; rw [run_makeMap]; rfl
  unfold lop
  rw [if_pos hw]
  unfold Oper.wp
  rw [ha.eval, hrun]
  exact ⟨_, (k w.heap.size).1, hH.alloc _, (k w.heap.size).2 _ (ha.put (some d) _)⟩
theorem JD.iJ {α : Type} {enc : α → List Value} {a : Option Addr} {ts : List α} {h : Heap} {t e : TypeId} {s1 s2 : Nat} {z1 z2 : Option Value} {b1 b2 : Nat} {de : TypeDesc} {x ix : Operand} {len cap : Nat} {kk : IntKind} {i : Nat} (hΓ : Fits P Γ) (hs : SlT enc s2 a ts h) (k : JD P n w0 R L0 l0 K rest (upd f d (pel a s2 i 0)) L) (hg : wantB n f l0 ⟨some d, .indexAddr t x ix, ty, pos, aft, g⟩ = true := by exact rfl) (hx : Cx.ev n f x = .slice a len cap := by exact rfl) (hi : Cx.ev n f ix = .int kk (i : Int) := by exact rfl)
    (ht : Cx.look Γ t = some ⟨.slice e, s1, z1, b1⟩ := by exact rfl) (he : Cx.look Γ e = some ⟨de, s2, z2, b2⟩ := by exact rfl) (hlen : ts.length = len := by first | rfl | omega) (h1 : i < len := by omega) : JD P n w0 R L0 l0 K ((0, ⟨some d, .indexAddr t x ix, ty, pos, aft, g⟩) :: rest) f L :=
  JD.p hg (fun w => by
    have := idx_run (P := P) (cap := cap) (kk := kk) (i := (i : Int)) hΓ ht he hs hlen (by omega) (by omega) w
    simp only [execOp, hx, hi, Sem.run_bind]
    rw [this]
    rfl) k
theorem JD.fP {t : TypeId} {a : Option Addr} {i sz k o : Nat} {x : Operand} {fs : Array Field} {fd : Field} {s1 s2 b1 b2 : Nat} {z1 z2 : Option Value} {de : TypeDesc} (hΓ : Fits P Γ) (kk : JD P n w0 R L0 l0 K rest (upd f d (pel a sz k (o + fd.offset))) L) (hg : wantB n f l0 ⟨some d, .fieldAddr t x i, ty, pos, aft, g⟩ = true := by exact rfl) (hx : Cx.ev n f x = pel a sz k o := by exact rfl)
    (ht : Cx.look Γ t = some ⟨.struct fs, s1, z1, b1⟩ := by exact rfl) (hf : fs[i]? = some fd := by exact rfl) (hl : Cx.look Γ fd.type = some ⟨de, s2, z2, b2⟩ := by exact rfl) (hn : Nat.beq s2 0 = false := by exact rfl) : JD P n w0 R L0 l0 K ((0, ⟨some d, .fieldAddr t x i, ty, pos, aft, g⟩) :: rest) f L :=
  JD.p hg (fun w => by
    have hu := (hΓ t _ ht).1
    have hsz := sizeOf_run hΓ hl w
    have hne : ¬ s2 = 0 := fun e => by rw [e] at hn; cases hn
    simp only [execOp, hx, Sem.run_bind]
    unfold Instr.fieldAt pel
    simp only [Sem.run_bind, run_underlying hu, Result.andThen_ok, hf, Instr.sureAddr, Sem.run_pure]
    unfold fieldPlace
    simp only [Sem.run_bind, hsz, Result.andThen_ok]
    rw [if_neg hne]
    simp only [Sem.run_pure, Result.andThen_ok, Addr_add_add, Nat.add_assoc]) kk
theorem JD.lT {α : Type} {enc : α → List Value} {a : Option Addr} {ts : List α} {h : Heap} {t : TypeId} {sz k o κ : Nat} {x : Operand} {v : Value} (dflt : α) (hΓ : Fits P Γ) (hsub : ∀ w, H w0 R L w → H w0 R L0 w) (hs : SlT enc sz a ts h) (hr : RdH R L0 h) (kk : JD P n w0 R L0 l0 K rest (upd f d v) L) (hg : wantB n f l0 ⟨some d, .load t x, ty, pos, aft, g⟩ = true := by exact rfl) (hx : Cx.ev n f x = pel a sz k o := by exact rfl) (hk : k < ts.length := by omega) (hv : ldEv Γ t (enc (ts.getD k dflt)) o = some v := by exact rfl) :
    JD P n w0 R L0 l0 K ((κ + 4, ⟨some d, .load t x, ty, pos, aft, g⟩) :: rest) f L := fun ac ha => by
  have hw : Region.wanted (⟨some d, .load t x, ty, pos, aft, g⟩ : Oper) (yielded l0.toArray ac.tmps) = true := by rw [ha.wanted, hg]
  refine ⟨rfl, hsub, v, .inl ⟨hw, fun w hH => ?_⟩, kk _ (ha.put (some d) v)⟩
  unfold Oper.quietAt
  have hrun : (execOp (Cx.ev n f) ⟨some d, .load t x, ty, pos, aft, g⟩).run P w = .ok (.value v) w := by
    have := ldP_run (P := P) hΓ hs (hH.rdH hr) hk hv
    simp only [execOp, hx, Sem.run_bind]
    rw [this]
    rfl
  rw [ha.eval, hrun]
  exact ⟨rfl, rfl⟩
end
theorem quietH {P : Program} {fid : FuncId} {args : Array Value} {w0 w : World} {R : Heap} {L : List Heap} {v : Value} (hw : H w0 R L w) (h : Calls P fid args w fun e w' => e = .returned v ∧ Below w.heap.size w w') : Calls P fid args w fun e w' => ∃ v' L', e = .returned v' ∧ H w0 R L' w' ∧ v' = v ∧ L' = L :=
  h.mono fun e w' ⟨h1, h2⟩ => ⟨v, L, h1, hw.grow h2, rfl, rfl⟩
theorem eCountR : Entr Tryz.prog 46 := Entr.of Tryz.func46 rfl rfl
theorem eCountS : Entr Tryz.prog 15 := Entr.of Tryz.func15 rfl rfl
def DOk (n : Nat) (ns : List N3) (m : List (Int × Nat)) : Prop := ∀ i v, ((i : Nat) : Int) < ns.length → ((i : Int), v) ∈ m → v = cN n ns i
theorem pow17 {n v : Nat} (hn : n ≤ 128) (hv : v ≤ 2 ^ n) : (bytesN v).length ≤ 1000 := by
  have h1 : 2 ^ n ≤ 2 ^ 128 := Nat.pow_le_pow_right (by omega) hn
  have h2 : (2 : Nat) ^ 128 < 256 ^ 17 := by decide
  have := bytesN_len (k := 17) (v := v) (by omega)
  omega
theorem cN_le2 {n : Nat} {ns : List N3} (w : WF n ns) {i : Nat} (hi : i < ns.length) : cN n ns i ≤ 2 ^ n := by
  have h := cN_le w hi
  have hp : 0 < 2 ^ (nd ns i).p := Nat.two_pow_pos _
  exact Nat.le_trans (Nat.le_mul_of_pos_left _ hp) h
def sumQ (n : Nat) (ns : List N3) (a : Nat) : Nat → Nat
  | 0 => 0
  | 1 => 0 + cN n ns (nd ns a).l * 2 ^ ((nd ns (nd ns a).l).p - (nd ns a).p - 1)
  | _ => 0 + cN n ns (nd ns a).l * 2 ^ ((nd ns (nd ns a).l).p - (nd ns a).p - 1) + cN n ns (nd ns a).h * 2 ^ ((nd ns (nd ns a).h).p - (nd ns a).p - 1)
theorem count_any {n : Nat} {K : KS} {s : SS} (so : SOk n K s) (b0 bm : Nat) : ∀ (m a : Nat), n - (nd s.ns a).p = m → a < s.ns.length → ∀ (done : List (Int × Nat)) (hM : Heap), MapT Tryz.prog 3 ekI natV done bm hM → DOk n s.ns done →
    ∀ {w0 w : World} {R : Heap} {L : List Heap}, H w0 R (hM :: L) w → Rd R L b0 (stO K s.an s.ns.length s.cn) → RdH R L s.hN →
    Calls Tryz.prog 46 #[.pointer (some ⟨b0, 0, none⟩), .int .i64 (a : Int), .map (some bm)] w fun e w' => ∃ v L', e = .returned v ∧ H w0 R L' w' ∧ ∃ done' hM', v = natV (cN n s.ns a) ∧ L' = hM' :: L ∧ MapT Tryz.prog 3 ekI natV done' bm hM' ∧ DOk n s.ns done' := by
  intro m
  induction m using Nat.strongRecOn with
  | ind m ih =>
  intro a hm ha done hM mp dok w0 w R L hw rb rn
  have sm := so.sm
  have n8 := so.n8
  have rb' := rb
  unfold stO at rb'
  have hsl := so.ow.sl
  have hkey := keyI (a : Int) (by omega)
  by_cases h2 : a < 2
  · have hcc := cN_const (n := n) (ns := s.ns) h2
    refine calls_in Tryz.func46 Tryz.ntmps46 rfl rfl (hw) ?_
    repeat' first
      | (refine J.isJ ?_; first | (first | (refine J.o 7 ?_; refine J.al hΓ (fun b6 => ?_)) | (refine J.o 2 ?_; refine J.gcv hΓ ?_ (hk := wU64 (by omega))) | (refine J.fc 74 ?_; refine J.call0 eOfN rfl rfl (fun w hw => ofN_any a (by omega) w) ?_)) | (first | (refine J.o 0 ?_; refine J.ev' hΓ ?_) | refine J.nil ?_ | (refine J.o 4 ?_; first | refine J.lT default hΓ ?_ | refine J.lR hΓ ?_) | (refine J.o 3 ?_; first | refine J.iJ hΓ ?_ | refine J.fP hΓ ?_ | refine J.iC hΓ ?_ | refine J.ev' hΓ ?_) | (refine J.o 1 ?_; first | refine J.ad ?_) | (refine J.o 5 ?_; first | refine J.t0 hΓ ?_ | refine J.t1 hΓ ?_) | (refine J.o 7 ?_; refine J.al hΓ (fun _ => ?_)) | (refine J.o 9 ?_; refine J.bl hΓ (fun _ => ?_)) | (refine J.o 10 ?_; refine J.ev' hΓ ?_) | (refine J.o 11 ?_; refine J.ev' hΓ ?_)))
      | (first | refine JC.seq ?_ | refine JC.region ?_ | refine JC.block ?_ | refine JC.ret ?_ | refine JC.exit ?_ | refine JC.skip ?_ | refine thenK.nn ?_ | refine thenK.r ?_ | refine thenK.x ?_ | refine blockK.nn ?_ | refine blockK.hit rfl ?_ | refine JC.condT rfl ?_ | refine JC.condF rfl ?_ | (refine JC.cond rfl (fun hc => ?_) (fun hc => ?_) <;> ((try simp only [decide_eq_true_eq, decide_eq_false_iff_not, beq_iff_eq, beq_eq_false_iff_ne, bne_iff_ne, bne_eq_false_iff_eq, Bool.not_eq_true', Bool.not_eq_false', Bool.not_eq_true, Bool.not_eq_false] at hc) <;> first | (first | (exact absurd rfl hc) | (exfalso; omega) | (exact absurd (hc.symm.trans (by assumption : _ = false)) (by decide)) | (exact absurd (hc.symm.trans (by assumption : _ = true)) (by decide))) | skip)) | refine drawK.nn ?_ | refine loopK.x ?_)
      | (fail)
      | fail
    all_goals first | (exfalso; omega) | skip
    exact retC hΓ rfl rfl rfl (by first | exact Rd.hd | exact Rd.hd.tl) rfl (fun w1 hw => ⟨_, _, rfl, hw.drop, done, hM, by rw [hcc]; rfl, rfl, mp, dok⟩)
  cases hget : mget done (a : Int) with
  | some v =>
    have hv := dok a v (by omega) (mget_mem hget)
    refine calls_in Tryz.func46 Tryz.ntmps46 rfl rfl (hw) ?_
    repeat' first
      | (refine J.isJ ?_; first | (first | (refine J.o 7 ?_; refine J.al hΓ (fun b6 => ?_)) | (refine J.o 9 ?_; refine J.lk (a := (a : Int)) keyedI ekI_inj mp (by first | exact RdH.hd | exact RdH.hd.tl | exact RdH.hd.tl.tl | exact RdH.hd.tl.tl.tl | exact RdH.hd.tl.tl.tl.tl | exact RdH.hd.tl.tl.tl.tl.tl | exact RdH.hd.tl.tl.tl.tl.tl.tl | exact RdH.hd.tl.tl.tl.tl.tl.tl.tl | exact RdH.old (fun _ hh => hh) | assumption) hkey hΓ ?_; rw [hget]; unfold natV)) | (first | (refine J.o 0 ?_; refine J.ev' hΓ ?_) | refine J.nil ?_ | (refine J.o 4 ?_; first | refine J.lT default hΓ ?_ | refine J.lR hΓ ?_) | (refine J.o 3 ?_; first | refine J.iJ hΓ ?_ | refine J.fP hΓ ?_ | refine J.iC hΓ ?_ | refine J.ev' hΓ ?_) | (refine J.o 1 ?_; first | refine J.ad ?_) | (refine J.o 5 ?_; first | refine J.t0 hΓ ?_ | refine J.t1 hΓ ?_) | (refine J.o 7 ?_; refine J.al hΓ (fun _ => ?_)) | (refine J.o 9 ?_; refine J.bl hΓ (fun _ => ?_)) | (refine J.o 10 ?_; refine J.ev' hΓ ?_) | (refine J.o 11 ?_; refine J.ev' hΓ ?_)))
      | (first | refine JC.seq ?_ | refine JC.region ?_ | refine JC.block ?_ | refine JC.ret ?_ | refine JC.exit ?_ | refine JC.skip ?_ | refine thenK.nn ?_ | refine thenK.r ?_ | refine thenK.x ?_ | refine blockK.nn ?_ | refine blockK.hit rfl ?_ | refine JC.condT rfl ?_ | refine JC.condF rfl ?_ | (refine JC.cond rfl (fun hc => ?_) (fun hc => ?_) <;> ((try simp only [decide_eq_true_eq, decide_eq_false_iff_not, beq_iff_eq, beq_eq_false_iff_ne, bne_iff_ne, bne_eq_false_iff_eq, Bool.not_eq_true', Bool.not_eq_false', Bool.not_eq_true, Bool.not_eq_false] at hc) <;> first | (first | (exact absurd rfl hc) | (exfalso; omega) | (exact absurd (hc.symm.trans (by assumption : _ = false)) (by decide)) | (exact absurd (hc.symm.trans (by assumption : _ = true)) (by decide))) | skip)) | refine drawK.nn ?_ | refine loopK.x ?_)
      | (fail)
      | fail
    all_goals first | (exfalso; omega) | skip
    exact retC hΓ rfl rfl rfl (by first | exact Rd.hd | exact Rd.hd.tl) rfl (fun w1 hw => ⟨_, _, rfl, hw.drop.drop, done, hM, by rw [← hv], rfl, mp, dok⟩)
  | none =>
    refine calls_in Tryz.func46 Tryz.ntmps46 rfl rfl (hw) ?_
    repeat' first
      | (refine J.isJ ?_; first | (first | (refine J.o 7 ?_; refine J.al hΓ (fun b6 => ?_)) | (refine J.o 9 ?_; first | (refine J.lk (a := (a : Int)) keyedI ekI_inj mp (by first | exact RdH.hd | exact RdH.hd.tl | exact RdH.hd.tl.tl | exact RdH.hd.tl.tl.tl | exact RdH.hd.tl.tl.tl.tl | exact RdH.hd.tl.tl.tl.tl.tl | exact RdH.hd.tl.tl.tl.tl.tl.tl | exact RdH.hd.tl.tl.tl.tl.tl.tl.tl | exact RdH.old (fun _ hh => hh) | assumption) hkey hΓ ?_; rw [hget]) | refine J.bl hΓ (fun ba => ?_)) | (refine J.o 4 ?_; first | refine J.lR hΓ ?_ (hr := rb'.tl.tl.tl) | refine J.lT default hΓ ?_ (hs := hsl) (hr := rn.tl.tl.tl))) | (first | (refine J.o 0 ?_; refine J.ev' hΓ ?_) | refine J.nil ?_ | (refine J.o 4 ?_; first | refine J.lT default hΓ ?_ | refine J.lR hΓ ?_) | (refine J.o 3 ?_; first | refine J.iJ hΓ ?_ | refine J.fP hΓ ?_ | refine J.iC hΓ ?_ | refine J.ev' hΓ ?_) | (refine J.o 1 ?_; first | refine J.ad ?_) | (refine J.o 5 ?_; first | refine J.t0 hΓ ?_ | refine J.t1 hΓ ?_) | (refine J.o 7 ?_; refine J.al hΓ (fun _ => ?_)) | (refine J.o 9 ?_; refine J.bl hΓ (fun _ => ?_)) | (refine J.o 10 ?_; refine J.ev' hΓ ?_) | (refine J.o 11 ?_; refine J.ev' hΓ ?_)))
      | (first | refine JC.seq ?_ | refine JC.region ?_ | refine JC.block ?_ | refine JC.ret ?_ | refine JC.exit ?_ | refine JC.skip ?_ | refine thenK.nn ?_ | refine thenK.r ?_ | refine thenK.x ?_ | refine blockK.nn ?_ | refine blockK.hit rfl ?_ | refine JC.condT rfl ?_ | refine JC.condF rfl ?_ | (refine JC.cond rfl (fun hc => ?_) (fun hc => ?_) <;> ((try simp only [decide_eq_true_eq, decide_eq_false_iff_not, beq_iff_eq, beq_eq_false_iff_ne, bne_iff_ne, bne_eq_false_iff_eq, Bool.not_eq_true', Bool.not_eq_false', Bool.not_eq_true, Bool.not_eq_false] at hc) <;> first | (first | (exact absurd rfl hc) | (exfalso; omega) | (exact absurd (hc.symm.trans (by assumption : _ = false)) (by decide)) | (exact absurd (hc.symm.trans (by assumption : _ = true)) (by decide))) | skip)) | refine drawK.nn ?_ | refine loopK.x ?_)
      | (fail)
      | fail
    all_goals first | (exfalso; omega) | skip
    rename_i r6 r7 r9
    have hpa := so.wf.pl a (by omega) ha
    have hlp : (nd s.ns a).p < (nd s.ns (nd s.ns a).l).p := so.wf.lp a (by omega) ha
    have hhp : (nd s.ns a).p < (nd s.ns (nd s.ns a).h).p := so.wf.hp a (by omega) ha
    have hl := so.wf.ll a (by omega) ha
    have hh := so.wf.hl a (by omega) ha
    have hlp2 : (s.ns.getD a default).p < (s.ns.getD (s.ns.getD a default).l default).p := hlp
    have hhp2 : (s.ns.getD a default).p < (s.ns.getD (s.ns.getD a default).h default).p := hhp
    have hll := so.wf.ple hl
    have hlh := so.wf.ple hh
    have hl2 : (s.ns.getD a default).l < s.ns.length := hl
    have hh2 : (s.ns.getD a default).h < s.ns.length := hh
    have hll2 : (s.ns.getD (s.ns.getD a default).l default).p ≤ n := hll
    have hlh2 : (s.ns.getD (s.ns.getD a default).h default).p ≤ n := hlh
    have hlp3 : (nd s.ns a).p < (s.ns.getD (nd s.ns a).l default).p := hlp
    have hhp3 : (nd s.ns a).p < (s.ns.getD (nd s.ns a).h default).p := hhp
    have hll3 : (s.ns.getD (nd s.ns a).l default).p ≤ n := hll
    have hlh3 : (s.ns.getD (nd s.ns a).h default).p ≤ n := hlh
    have hs2 : sumQ n s.ns a 2 = cN n s.ns a := by
      rw [cN_node so.wf (by omega) ha]
      show 0 + _ * _ + _ * _ = _
      rw [Nat.zero_add, Nat.mul_comm, Nat.mul_comm (cN n s.ns (nd s.ns a).h)]
    have hca := cN_le2 so.wf ha
    have hs1 : sumQ n s.ns a 1 ≤ sumQ n s.ns a 2 := Nat.le_add_right _ _
    have hml : cN n s.ns (nd s.ns a).l * 2 ^ ((nd s.ns (nd s.ns a).l).p - (nd s.ns a).p - 1) ≤ sumQ n s.ns a 1 := Nat.le_add_left _ _
    have hmh : cN n s.ns (nd s.ns a).h * 2 ^ ((nd s.ns (nd s.ns a).h).p - (nd s.ns a).p - 1) ≤ sumQ n s.ns a 2 := Nat.le_add_left _ _
    have bs0 : (bytesN (sumQ n s.ns a 0)).length ≤ 1000 := by show (bytesN 0).length ≤ 1000; decide
    have bs1 := pow17 (v := sumQ n s.ns a 1) n8 (by omega)
    have bml := pow17 n8 (Nat.le_trans hml (by omega))
    have bmh := pow17 n8 (Nat.le_trans hmh (by omega))
    have bcl := pow17 n8 (cN_le2 so.wf hl)
    have bch := pow17 n8 (cN_le2 so.wf hh)
    have bpl := pow17 n8 (Nat.pow_le_pow_right (n := 2) (by omega) (show (nd s.ns (nd s.ns a).l).p - (nd s.ns a).p - 1 ≤ n by omega))
    have bph := pow17 n8 (Nat.pow_le_pow_right (n := 2) (by omega) (show (nd s.ns (nd s.ns a).h).p - (nd s.ns a).p - 1 ≤ n by omega))
    refine JC.loopG (fun i => i == 12 || i == 13 || Nat.ble 40 i) (fun m g L' => ∃ q dn hM', g 40 = .int .i64 ((q : Nat) : Int) ∧ q + m = 2 ∧ MapT Tryz.prog 3 ekI natV dn bm hM' ∧ DOk n s.ns dn ∧ L' = [(ba, Obj.cells ⟨[.int .i64 ((nd s.ns a).l : Int), .int .i64 ((nd s.ns a).h : Int)]⟩ 3 (0, 0))] :: [(b6, Obj.cells ⟨[.string (S (bytesN (sumQ n s.ns a q)))]⟩ 48 (0, 0))] :: [(r9, Obj.cells ⟨[.int .i64 ((nd s.ns a).p : Int), .int .i64 ((nd s.ns a).l : Int), .int .i64 ((nd s.ns a).h : Int)]⟩ 75 (0, 0))] :: [(r7, Obj.cells ⟨[.string ByteArray.empty]⟩ 48 (0, 0))] :: [(r6, Obj.cells ⟨[.string ByteArray.empty]⟩ 48 (0, 0))] :: hM' :: L) 2 ⟨0, done, hM, rfl, rfl, mp, dok, rfl⟩ ?_
    rintro m1 g1 L' ⟨q, dn, hM', e40, hq, mp', dok', rfl⟩
    refine JC.pin 40 e40 ?_
    rcases (by omega : q = 2 ∨ q = 0 ∨ q = 1) with rfl | rfl | rfl
    ·
      rw [hs2]
      repeat' first
        | (refine J.isJ ?_; first | (first | (refine J.o 4 ?_; first | refine J.lR hΓ ?_ (hr := Rd.hd.tl.tl)) | (refine J.o 9 ?_; refine J.perm br5 ?_; refine J.mup (a := (a : Int)) (ev := natV) (cN n s.ns a) keyedI ekI_inj mp' hkey hΓ (fun h4 mp4 => ?_)) | (refine J.o 5 ?_; refine J.perm br5 ?_; refine J.t0 hΓ ?_)) | (first | (refine J.o 0 ?_; refine J.ev' hΓ ?_) | refine J.nil ?_ | (refine J.o 4 ?_; first | refine J.lT default hΓ ?_ | refine J.lR hΓ ?_) | (refine J.o 3 ?_; first | refine J.iJ hΓ ?_ | refine J.fP hΓ ?_ | refine J.iC hΓ ?_ | refine J.ev' hΓ ?_) | (refine J.o 1 ?_; first | refine J.ad ?_) | (refine J.o 5 ?_; first | refine J.t0 hΓ ?_ | refine J.t1 hΓ ?_) | (refine J.o 7 ?_; refine J.al hΓ (fun _ => ?_)) | (refine J.o 9 ?_; refine J.bl hΓ (fun _ => ?_)) | (refine J.o 10 ?_; refine J.ev' hΓ ?_) | (refine J.o 11 ?_; refine J.ev' hΓ ?_)))
        | (first | refine JC.seq ?_ | refine JC.region ?_ | refine JC.block ?_ | refine JC.ret ?_ | refine JC.exit ?_ | refine JC.skip ?_ | refine thenK.nn ?_ | refine thenK.r ?_ | refine thenK.x ?_ | refine blockK.nn ?_ | refine blockK.hit rfl ?_ | refine JC.condT rfl ?_ | refine JC.condF rfl ?_ | (refine JC.cond rfl (fun hc => ?_) (fun hc => ?_) <;> ((try simp only [decide_eq_true_eq, decide_eq_false_iff_not, beq_iff_eq, beq_eq_false_iff_ne, bne_iff_ne, bne_eq_false_iff_eq, Bool.not_eq_true', Bool.not_eq_false', Bool.not_eq_true, Bool.not_eq_false] at hc) <;> first | (first | (exact absurd rfl hc) | (exfalso; omega) | (exact absurd (hc.symm.trans (by assumption : _ = false)) (by decide)) | (exact absurd (hc.symm.trans (by assumption : _ = true)) (by decide))) | skip)) | refine drawK.nn ?_ | refine loopK.x ?_)
        | (fail)
        | fail
      all_goals first | (exfalso; omega) | skip
      refine retC hΓ rfl rfl rfl Rd.hd rfl (fun w1 hw => ⟨_, _, rfl, H.sel (l := [_, _, _, _, _, _]) (M := L) hw [1], mput dn (a : Int) (cN n s.ns a), h4, rfl, rfl, mp4, fun i v hi hv => ?_⟩)
      rcases mput_mem hv with hv | ⟨h1, h2⟩
      · exact dok' i v hi hv
      · rw [h2, show i = a by omega]
    ·
      repeat' first
        | (refine J.isJ ?_; first | (first | (refine J.o 4 ?_; first | refine J.lT (0 : Int) hΓ ?_ (hs := slArg ba [((nd s.ns a).l : Int), ((nd s.ns a).h : Int)] 3) (hr := RdH.hd) | refine J.lR hΓ ?_ (hr := rb'.tl.tl.tl.tl.tl.tl) | refine J.lT default hΓ ?_ (hs := hsl) (hr := rn.tl.tl.tl.tl.tl.tl) | refine J.lR hΓ ?_ (hr := Rd.hd.tl.tl)) | (refine J.o 1 ?_; first | refine J.gsub (b := 1) ?_ | refine J.gsub ?_)) | (first | (refine J.o 0 ?_; refine J.ev' hΓ ?_) | refine J.nil ?_ | (refine J.o 4 ?_; first | refine J.lT default hΓ ?_ | refine J.lR hΓ ?_) | (refine J.o 3 ?_; first | refine J.iJ hΓ ?_ | refine J.fP hΓ ?_ | refine J.iC hΓ ?_ | refine J.ev' hΓ ?_) | (refine J.o 1 ?_; first | refine J.ad ?_) | (refine J.o 5 ?_; first | refine J.t0 hΓ ?_ | refine J.t1 hΓ ?_) | (refine J.o 7 ?_; refine J.al hΓ (fun _ => ?_)) | (refine J.o 9 ?_; refine J.bl hΓ (fun _ => ?_)) | (refine J.o 10 ?_; refine J.ev' hΓ ?_) | (refine J.o 11 ?_; refine J.ev' hΓ ?_)))
        | (first | refine JC.seq ?_ | refine JC.region ?_ | refine JC.block ?_ | refine JC.ret ?_ | refine JC.exit ?_ | refine JC.skip ?_ | refine thenK.nn ?_ | refine thenK.r ?_ | refine thenK.x ?_ | refine blockK.nn ?_ | refine blockK.hit rfl ?_ | refine JC.condT rfl ?_ | refine JC.condF rfl ?_ | (refine JC.cond rfl (fun hc => ?_) (fun hc => ?_) <;> ((try simp only [decide_eq_true_eq, decide_eq_false_iff_not, beq_iff_eq, beq_eq_false_iff_ne, bne_iff_ne, bne_eq_false_iff_eq, Bool.not_eq_true', Bool.not_eq_false', Bool.not_eq_true, Bool.not_eq_false] at hc) <;> first | (first | (exact absurd rfl hc) | (exfalso; omega) | (exact absurd (hc.symm.trans (by assumption : _ = false)) (by decide)) | (exact absurd (hc.symm.trans (by assumption : _ = true)) (by decide))) | skip)) | refine drawK.nn ?_ | refine loopK.x ?_)
        | ((refine JC.drawO [(0,0),(0,1),(0,2),(1,3),(0,4),(0,5),(0,6),(1,7),(0,8),(1,9),(0,10),(0,11),(0,12)] (by decide +kernel) (by decide +kernel) ?_))
        | fail
      all_goals first | (exfalso; omega) | skip
      refine JC.drawD ([(b6, Obj.cells ⟨[.string (S (bytesN (sumQ n s.ns a 0)))]⟩ 48 (0, 0))] :: L) [(4,0),(0,1),(0,2),(0,3),(0,5),(3,4),(3,6),(3,7),(2,8),(2,9)] (by kernel_rfl) (by kernel_rfl) ?_
      refine JD.ld hΓ (fun w hw => H.sel (l := [_, _, _, _, _, _]) (M := L) hw [1]) Rd.hd ?_
      refine JD.ev hΓ ?_
      refine JD.ev hΓ ?_
      refine JD.ev hΓ ?_
      refine JD.ev hΓ ?_
      refine JD.callvd eCountR rfl rfl rfl (fun w hw => ih _ (by omega) (nd s.ns a).l rfl hl dn hM' mp' dok' (H.sel (l := [_, _, _, _, _, _]) (M := L) hw [5, 0, 1, 2, 3, 4]) rb.tl.tl.tl.tl.tl rn.tl.tl.tl.tl.tl) ?_
      rintro _ _ ⟨dn2, hM2, rfl, rfl, mp2, dok2⟩
      refine ⟨fun w hw => H.sel (l := [_, _, _, _, _, _]) (M := L) hw [2], ?_⟩
      refine JD.callvd ePow2 rfl rfl rfl (fun w hw => quietH hw (pow2_any ((nd s.ns (nd s.ns a).l).p - (nd s.ns a).p - 1) (by omega) w)) ?_
      rintro _ _ ⟨rfl, rfl⟩
      refine ⟨fun w hw => H.sel (l := [_, _, _, _, _, _]) (M := L) hw [2], ?_⟩
      refine JD.callvd eMul rfl rfl rfl (fun w hw => quietH hw (mul_any (cN n s.ns (nd s.ns a).l) (2 ^ ((nd s.ns (nd s.ns a).l).p - (nd s.ns a).p - 1)) bcl bpl w)) ?_
      rintro _ _ ⟨rfl, rfl⟩
      refine ⟨fun w hw => H.sel (l := [_, _, _, _, _, _]) (M := L) hw [2], ?_⟩
      refine JD.callvx eAddN rfl rfl rfl (fun w hw => quietH hw (add_any2 (sumQ n s.ns a 0) (cN n s.ns (nd s.ns a).l * 2 ^ ((nd s.ns (nd s.ns a).l).p - (nd s.ns a).p - 1)) bs0 bml w)) ?_
      rintro _ _ ⟨rfl, rfl⟩
      refine JD.perm br2 ?_
      refine JD.st hΓ ?_
      refine JD.nil ?_
      repeat' first
        | (refine J.isJ ?_; first | (fail) | (first | (refine J.o 0 ?_; refine J.ev' hΓ ?_) | refine J.nil ?_ | (refine J.o 4 ?_; first | refine J.lT default hΓ ?_ | refine J.lR hΓ ?_) | (refine J.o 3 ?_; first | refine J.iJ hΓ ?_ | refine J.fP hΓ ?_ | refine J.iC hΓ ?_ | refine J.ev' hΓ ?_) | (refine J.o 1 ?_; first | refine J.ad ?_) | (refine J.o 5 ?_; first | refine J.t0 hΓ ?_ | refine J.t1 hΓ ?_) | (refine J.o 7 ?_; refine J.al hΓ (fun _ => ?_)) | (refine J.o 9 ?_; refine J.bl hΓ (fun _ => ?_)) | (refine J.o 10 ?_; refine J.ev' hΓ ?_) | (refine J.o 11 ?_; refine J.ev' hΓ ?_)))
        | (first | refine JC.seq ?_ | refine JC.region ?_ | refine JC.block ?_ | refine JC.ret ?_ | refine JC.exit ?_ | refine JC.skip ?_ | refine thenK.nn ?_ | refine thenK.r ?_ | refine thenK.x ?_ | refine blockK.nn ?_ | refine blockK.hit rfl ?_ | refine JC.condT rfl ?_ | refine JC.condF rfl ?_ | (refine JC.cond rfl (fun hc => ?_) (fun hc => ?_) <;> ((try simp only [decide_eq_true_eq, decide_eq_false_iff_not, beq_iff_eq, beq_eq_false_iff_ne, bne_iff_ne, bne_eq_false_iff_eq, Bool.not_eq_true', Bool.not_eq_false', Bool.not_eq_true, Bool.not_eq_false] at hc) <;> first | (first | (exact absurd rfl hc) | (exfalso; omega) | (exact absurd (hc.symm.trans (by assumption : _ = false)) (by decide)) | (exact absurd (hc.symm.trans (by assumption : _ = true)) (by decide))) | skip)) | refine drawK.nn ?_ | refine loopK.x ?_)
        | (fail)
        | fail
      refine loopK.nn (m1 - 1) (by omega) (by repeat (first | refine Ag.upd rfl ?_ | exact Ag.hv)) ⟨_, ⟨1, dn2, hM2, rfl, by omega, mp2, dok2, rfl⟩, fun w hw => H.sel (l := [_, _, _, _, _, _]) (M := L) hw [2, 0, 3, 4, 5, 1]⟩
    ·
      repeat' first
        | (refine J.isJ ?_; first | (first | (refine J.o 4 ?_; first | refine J.lT (0 : Int) hΓ ?_ (hs := slArg ba [((nd s.ns a).l : Int), ((nd s.ns a).h : Int)] 3) (hr := RdH.hd) | refine J.lR hΓ ?_ (hr := rb'.tl.tl.tl.tl.tl.tl) | refine J.lT default hΓ ?_ (hs := hsl) (hr := rn.tl.tl.tl.tl.tl.tl) | refine J.lR hΓ ?_ (hr := Rd.hd.tl.tl)) | (refine J.o 1 ?_; first | refine J.gsub (b := 1) ?_ | refine J.gsub ?_)) | (first | (refine J.o 0 ?_; refine J.ev' hΓ ?_) | refine J.nil ?_ | (refine J.o 4 ?_; first | refine J.lT default hΓ ?_ | refine J.lR hΓ ?_) | (refine J.o 3 ?_; first | refine J.iJ hΓ ?_ | refine J.fP hΓ ?_ | refine J.iC hΓ ?_ | refine J.ev' hΓ ?_) | (refine J.o 1 ?_; first | refine J.ad ?_) | (refine J.o 5 ?_; first | refine J.t0 hΓ ?_ | refine J.t1 hΓ ?_) | (refine J.o 7 ?_; refine J.al hΓ (fun _ => ?_)) | (refine J.o 9 ?_; refine J.bl hΓ (fun _ => ?_)) | (refine J.o 10 ?_; refine J.ev' hΓ ?_) | (refine J.o 11 ?_; refine J.ev' hΓ ?_)))
        | (first | refine JC.seq ?_ | refine JC.region ?_ | refine JC.block ?_ | refine JC.ret ?_ | refine JC.exit ?_ | refine JC.skip ?_ | refine thenK.nn ?_ | refine thenK.r ?_ | refine thenK.x ?_ | refine blockK.nn ?_ | refine blockK.hit rfl ?_ | refine JC.condT rfl ?_ | refine JC.condF rfl ?_ | (refine JC.cond rfl (fun hc => ?_) (fun hc => ?_) <;> ((try simp only [decide_eq_true_eq, decide_eq_false_iff_not, beq_iff_eq, beq_eq_false_iff_ne, bne_iff_ne, bne_eq_false_iff_eq, Bool.not_eq_true', Bool.not_eq_false', Bool.not_eq_true, Bool.not_eq_false] at hc) <;> first | (first | (exact absurd rfl hc) | (exfalso; omega) | (exact absurd (hc.symm.trans (by assumption : _ = false)) (by decide)) | (exact absurd (hc.symm.trans (by assumption : _ = true)) (by decide))) | skip)) | refine drawK.nn ?_ | refine loopK.x ?_)
        | ((refine JC.drawO [(0,0),(0,1),(0,2),(1,3),(0,4),(0,5),(0,6),(1,7),(0,8),(1,9),(0,10),(0,11),(0,12)] (by decide +kernel) (by decide +kernel) ?_))
        | fail
      all_goals first | (exfalso; omega) | skip
      refine JC.drawD ([(b6, Obj.cells ⟨[.string (S (bytesN (sumQ n s.ns a 1)))]⟩ 48 (0, 0))] :: L) [(4,0),(0,1),(0,2),(0,3),(0,5),(3,4),(3,6),(3,7),(2,8),(2,9)] (by kernel_rfl) (by kernel_rfl) ?_
      refine JD.ld hΓ (fun w hw => H.sel (l := [_, _, _, _, _, _]) (M := L) hw [1]) Rd.hd ?_
      refine JD.ev hΓ ?_
      refine JD.ev hΓ ?_
      refine JD.ev hΓ ?_
      refine JD.ev hΓ ?_
      refine JD.callvd eCountR rfl rfl rfl (fun w hw => ih _ (by omega) (nd s.ns a).h rfl hh dn hM' mp' dok' (H.sel (l := [_, _, _, _, _, _]) (M := L) hw [5, 0, 1, 2, 3, 4]) rb.tl.tl.tl.tl.tl rn.tl.tl.tl.tl.tl) ?_
      rintro _ _ ⟨dn2, hM2, rfl, rfl, mp2, dok2⟩
      refine ⟨fun w hw => H.sel (l := [_, _, _, _, _, _]) (M := L) hw [2], ?_⟩
      refine JD.callvd ePow2 rfl rfl rfl (fun w hw => quietH hw (pow2_any ((nd s.ns (nd s.ns a).h).p - (nd s.ns a).p - 1) (by omega) w)) ?_
      rintro _ _ ⟨rfl, rfl⟩
      refine ⟨fun w hw => H.sel (l := [_, _, _, _, _, _]) (M := L) hw [2], ?_⟩
      refine JD.callvd eMul rfl rfl rfl (fun w hw => quietH hw (mul_any (cN n s.ns (nd s.ns a).h) (2 ^ ((nd s.ns (nd s.ns a).h).p - (nd s.ns a).p - 1)) bch bph w)) ?_
      rintro _ _ ⟨rfl, rfl⟩
      refine ⟨fun w hw => H.sel (l := [_, _, _, _, _, _]) (M := L) hw [2], ?_⟩
      refine JD.callvx eAddN rfl rfl rfl (fun w hw => quietH hw (add_any2 (sumQ n s.ns a 1) (cN n s.ns (nd s.ns a).h * 2 ^ ((nd s.ns (nd s.ns a).h).p - (nd s.ns a).p - 1)) bs1 bmh w)) ?_
      rintro _ _ ⟨rfl, rfl⟩
      refine JD.perm br2 ?_
      refine JD.st hΓ ?_
      refine JD.nil ?_
      repeat' first
        | (refine J.isJ ?_; first | (fail) | (first | (refine J.o 0 ?_; refine J.ev' hΓ ?_) | refine J.nil ?_ | (refine J.o 4 ?_; first | refine J.lT default hΓ ?_ | refine J.lR hΓ ?_) | (refine J.o 3 ?_; first | refine J.iJ hΓ ?_ | refine J.fP hΓ ?_ | refine J.iC hΓ ?_ | refine J.ev' hΓ ?_) | (refine J.o 1 ?_; first | refine J.ad ?_) | (refine J.o 5 ?_; first | refine J.t0 hΓ ?_ | refine J.t1 hΓ ?_) | (refine J.o 7 ?_; refine J.al hΓ (fun _ => ?_)) | (refine J.o 9 ?_; refine J.bl hΓ (fun _ => ?_)) | (refine J.o 10 ?_; refine J.ev' hΓ ?_) | (refine J.o 11 ?_; refine J.ev' hΓ ?_)))
        | (first | refine JC.seq ?_ | refine JC.region ?_ | refine JC.block ?_ | refine JC.ret ?_ | refine JC.exit ?_ | refine JC.skip ?_ | refine thenK.nn ?_ | refine thenK.r ?_ | refine thenK.x ?_ | refine blockK.nn ?_ | refine blockK.hit rfl ?_ | refine JC.condT rfl ?_ | refine JC.condF rfl ?_ | (refine JC.cond rfl (fun hc => ?_) (fun hc => ?_) <;> ((try simp only [decide_eq_true_eq, decide_eq_false_iff_not, beq_iff_eq, beq_eq_false_iff_ne, bne_iff_ne, bne_eq_false_iff_eq, Bool.not_eq_true', Bool.not_eq_false', Bool.not_eq_true, Bool.not_eq_false] at hc) <;> first | (first | (exact absurd rfl hc) | (exfalso; omega) | (exact absurd (hc.symm.trans (by assumption : _ = false)) (by decide)) | (exact absurd (hc.symm.trans (by assumption : _ = true)) (by decide))) | skip)) | refine drawK.nn ?_ | refine loopK.x ?_)
        | (fail)
        | fail
      refine loopK.nn (m1 - 1) (by omega) (by repeat (first | refine Ag.upd rfl ?_ | exact Ag.hv)) ⟨_, ⟨2, dn2, hM2, rfl, by omega, mp2, dok2, rfl⟩, fun w hw => H.sel (l := [_, _, _, _, _, _]) (M := L) hw [2, 0, 3, 4, 5, 1]⟩
theorem Count_any {n : Nat} {K : KS} {s : SS} (so : SOk n K s) (b0 a : Nat) (ha : a < s.ns.length) {w0 w : World} {R : Heap} {L : List Heap} (rb : Rd R L b0 (stO K s.an s.ns.length s.cn)) (rn : RdH R L s.hN) (hw : H w0 R L w) :
    Calls Tryz.prog 15 #[.pointer (some ⟨b0, 0, none⟩), .int .i64 (a : Int)] w fun e w' => ∃ v L', e = .returned v ∧ H w0 R L' w' ∧ v = .tuple #[natV (2 ^ (nd s.ns a).p * cN n s.ns a), .int .i64 0] ∧ L' = L := by
  have two := so.wf.two
  have n8 := so.n8
  have sm := so.sm
  have rb' := rb
  unfold stO at rb'
  have hsl := so.ow.sl
  have hpl := so.wf.ple ha
  have cChk : ∀ L1 w1 b1, H w0 R L1 w1 → Rd R L1 b0 (stO K s.an s.ns.length s.cn) → Rd R L1 b1 (intO a) → Calls Tryz.prog 44 #[.pointer (some ⟨b0, 0, none⟩), .slice (some ⟨b1, 0, none⟩) 1 1] w1 fun e w' => e = .returned (.int .i64 0) ∧ Below w1.heap.size w1 w' := fun L1 w1 b1 hw hb hr => by
    have hc := chk_ok (m := s.ns.length) (l := [a]) (by simp only [List.mem_cons, List.not_mem_nil, or_false, forall_eq]; exact ha)
    have := check_any K b0 s.an s.cn s.ns.length two [(b0, stO K s.an s.ns.length s.cn), (b1, intO a)] List.mem_cons_self [(a : Int)] (some ⟨b1, 0, none⟩) 1 ((slArg b1 [(a : Int)] 3).sub fun y hy => List.mem_cons_of_mem _ hy) (by show 1 ≤ 1000; omega) w1 (holds2 (hw.rd hb) (holds2 (hw.rd hr) (Holds.nil _)))
    rw [show chkP s.ns.length [(a : Int)] = true from hc, if_pos rfl] at this
    exact this
  have bc := pow17 n8 (cN_le2 so.wf ha)
  have bp := pow17 n8 (Nat.pow_le_pow_right (n := 2) (by omega) hpl)
  refine calls_in Tryz.func15 Tryz.ntmps15 rfl rfl (hw) ?_
  repeat' first
    | (refine J.isJ ?_; first | (first | (refine J.o 7 ?_; refine J.al hΓ (fun b4 => ?_)) | (refine J.o 9 ?_; refine J.bl hΓ (fun b1 => ?_)) | (refine J.fc 44 ?_; refine J.call0 eCheck rfl rfl (fun w hw => cChk _ w _ hw rb.tl.tl Rd.hd) ?_)) | (first | (refine J.o 0 ?_; refine J.ev' hΓ ?_) | refine J.nil ?_ | (refine J.o 3 ?_; first | refine J.ev' hΓ ?_) | (refine J.o 7 ?_; refine J.al hΓ (fun _ => ?_)) | (refine J.o 9 ?_; refine J.bl hΓ (fun _ => ?_)) | (refine J.o 10 ?_; refine J.ev' hΓ ?_) | (refine J.o 11 ?_; refine J.ev' hΓ ?_)))
    | (first | refine JC.seq ?_ | refine JC.region ?_ | refine JC.ret ?_ | refine JC.skip ?_ | refine thenK.nn ?_ | refine JC.condF rfl ?_ | refine drawK.nn ?_)
    | (fail)
    | fail
  all_goals first | (exfalso; omega) | skip
  refine JC.drawD L [(0,0),(0,1),(0,4),(0,5),(0,6),(4,7),(0,8),(0,9),(0,10),(4,11),(3,2),(3,3),(3,12),(3,13),(2,14),(0,15)] (by decide +kernel) (by decide +kernel) ?_
  refine JD.ev hΓ ?_
  refine JD.ev hΓ ?_
  refine JD.ev hΓ ?_
  refine JD.ev hΓ ?_
  refine JD.ev hΓ ?_
  refine JD.ld hΓ (fun w hw => hw.drop.drop) rb' ?_
  refine JD.ev hΓ ?_
  refine JD.iJ hΓ hsl ?_
  refine JD.fP hΓ ?_
  refine JD.lT default hΓ (fun w hw => hw.drop.drop) hsl rn ?_
  refine JD.mkm fun bm => ⟨fun w hw => hw.drop.drop.drop, ?_⟩
  refine JD.callvd eCountR rfl rfl rfl (fun w hw => count_any so b0 bm _ a rfl ha [] [(bm, .map ⟨[]⟩ 0)] (MapT.nil _) (fun i v hi hv => by cases hv) hw rb.tl.tl rn.tl.tl) ?_
  rintro _ _ ⟨dn, hM, rfl, rfl, mp, dok⟩
  refine ⟨fun w hw => hw.drop.drop.drop, ?_⟩
  refine JD.callvd ePow2 rfl rfl rfl (fun w hw => quietH hw (pow2_any (nd s.ns a).p (by omega) w)) ?_
  rintro _ _ ⟨rfl, rfl⟩
  refine ⟨fun w hw => hw.drop.drop.drop, ?_⟩
  refine JD.callvd eMul rfl rfl rfl (fun w hw => quietH hw (mul_any (cN n s.ns a) (2 ^ (nd s.ns a).p) bc bp w)) ?_
  rintro _ _ ⟨rfl, rfl⟩
  refine ⟨fun w hw => hw.drop.drop.drop, ?_⟩
  refine JD.perm br2 ?_
  refine JD.st hΓ ?_
  refine JD.ev hΓ ?_
  refine JD.nil ?_
  repeat' first
    | (refine J.isJ ?_; first | (fail) | (first | (refine J.o 0 ?_; refine J.ev' hΓ ?_) | refine J.nil ?_ | (refine J.o 3 ?_; first | refine J.ev' hΓ ?_) | (refine J.o 7 ?_; refine J.al hΓ (fun _ => ?_)) | (refine J.o 9 ?_; refine J.bl hΓ (fun _ => ?_)) | (refine J.o 10 ?_; refine J.ev' hΓ ?_) | (refine J.o 11 ?_; refine J.ev' hΓ ?_)))
    | (first | refine JC.seq ?_ | refine JC.region ?_ | refine JC.ret ?_ | refine JC.skip ?_ | refine thenK.nn ?_ | refine JC.condF rfl ?_ | refine drawK.nn ?_)
    | (fail)
    | fail
  rw [Nat.mul_comm (cN n s.ns a)]
  exact retCS hΓ rfl rfl rfl rfl Rd.hd rfl rfl (fun w1 hw => ⟨_, _, rfl, hw.drop.drop.drop, rfl, rfl⟩)
end Go.Proofs.YtbhgahjeocnfcaaGreat
namespace Go.Proofs.YtbhgahjeocnfcaaGreat
open Go Go.Cx Go.RowKit
set_option linter.unusedVariables false
set_option linter.unusedSimpArgs false
set_option maxHeartbeats 4000000
attribute [local irreducible] J JC thenK blockK loopK roundK drawK retK QW Qt pel List.set Calls
open Go.Maps
set_option maxRecDepth 8000
attribute [local irreducible] JE Br eK0 eK3 brK pc
def asgS (order : List Int) (x : Nat × Nat) : Nat → Bool := fun k => hasB x (order.getD k default)
theorem Eval_any {n : Nat} {K : KS} {s : SS} (so : SOk n K s) {order : List Int} {hO hP : Heap} (po : POk K order hO hP) (b a : Nat) (ha : a < s.ns.length) (x : Nat × Nat) (hx : okS x) (w : World) (hw : Holds (stR K b s hO) w) :
    Calls Tryz.prog 19 #[.pointer (some ⟨b, 0, none⟩), .int .i64 (a : Int), sv x] w fun e w' => e = .returned (.bool (fn n s.ns a (asgS order x))) ∧ Below w.heap.size w w' := by
  have hno := so.no
  have hpl := po.len
  have hsm := so.sm
  have two := so.wf.two
  have n8 := so.n8
  have hsl : SlT enc3 3 s.an s.ns (stR K b s hO) := so.ow.sl.sub fun y hy => List.mem_cons_of_mem _ (List.mem_append_left _ hy)
  have hso : SlT encI 1 K.ao order (stR K b s hO) := po.ow.sl.sub fun y hy => List.mem_cons_of_mem _ (List.mem_append_right _ hy)
  have rb : ∀ L, Rd (stR K b s hO) L b (stO K s.an s.ns.length s.cn) := fun L => Rd.old List.mem_cons_self
  have q0 : ∀ L, RdH (stR K b s hO) L (stR K b s hO) := fun L => RdH.old fun _ hh => hh
  have cChk : ∀ L1 w1 b1, H w (stR K b s hO) L1 w1 → Rd (stR K b s hO) L1 b1 (intO a) → Calls Tryz.prog 44 #[.pointer (some ⟨b, 0, none⟩), .slice (some ⟨b1, 0, none⟩) 1 1] w1 fun e w' => e = .returned (.int .i64 0) ∧ Below w1.heap.size w1 w' := fun L1 w1 b1 hw hr => by
    have hc := chk_ok (m := s.ns.length) (l := [a]) (by simp only [List.mem_cons, List.not_mem_nil, or_false, forall_eq]; exact ha)
    have := check_any K b s.an s.cn s.ns.length so.wf.two [(b, stO K s.an s.ns.length s.cn), (b1, intO a)] List.mem_cons_self [(a : Int)] (some ⟨b1, 0, none⟩) 1 ((slArg b1 [(a : Int)] 3).sub fun y hy => List.mem_cons_of_mem _ hy) (by show 1 ≤ 1000; omega) w1 (holds2 (hw.rd (rb _)) (holds2 (hw.rd hr) (Holds.nil _)))
    rw [show chkP s.ns.length [(a : Int)] = true from hc, if_pos rfl] at this
    exact this
  have rb2 := rb
  unfold stO at rb
  refine calls_of_JC (R := (stR K b s hO)) Tryz.func19 Tryz.ntmps19 rfl rfl (hw) ?_
  unfold sv
  repeat' first
    | (refine J.isJ ?_; first | (first | (refine J.o 6 ?_; refine J.bx (fun b5 => ?_)) | (refine J.o 9 ?_; refine J.bl hΓ (fun b1 => ?_)) | (refine J.fc 44 ?_; refine J.call0 eCheck rfl rfl (fun w hw => cChk _ w _ hw Rd.hd) ?_)) | (first | (refine J.o 0 ?_; refine J.ev' hΓ ?_) | refine J.nil ?_ | (refine J.o 4 ?_; first | refine J.lT default hΓ ?_ | refine J.lR hΓ ?_) | (refine J.o 3 ?_; first | refine J.iJ hΓ ?_ | refine J.ev' hΓ ?_) | (refine J.o 5 ?_; first | refine J.t0 hΓ ?_) | (refine J.o 6 ?_; refine J.bx (fun _ => ?_)) | (refine J.o 7 ?_; refine J.al hΓ (fun _ => ?_)) | (refine J.o 9 ?_; refine J.bl hΓ (fun _ => ?_)) | (refine J.o 10 ?_; refine J.ev' hΓ ?_) | (refine J.o 11 ?_; refine J.ev' hΓ ?_)))
    | (first | refine JC.seq ?_ | refine JC.region ?_ | refine JC.block ?_ | refine JC.ret ?_ | refine JC.exit ?_ | refine JC.skip ?_ | refine thenK.nn ?_ | refine thenK.x ?_ | refine blockK.nn ?_ | refine blockK.hit rfl ?_ | refine JC.condF rfl ?_ | (refine JC.cond rfl (fun hc => ?_) (fun hc => ?_) <;> ((try simp only [decide_eq_true_eq, decide_eq_false_iff_not, beq_iff_eq, beq_eq_false_iff_ne, bne_iff_ne, bne_eq_false_iff_eq, Bool.not_eq_true', Bool.not_eq_false', Bool.not_eq_true, Bool.not_eq_false] at hc) <;> first | (first | (exact absurd rfl hc) | (exfalso; omega) | (exact absurd (hc.symm.trans (by assumption : _ = false)) (by decide)) | (exact absurd (hc.symm.trans (by assumption : _ = true)) (by decide))) | skip)) | refine drawK.nn ?_ | refine loopK.x ?_)
    | (fail)
    | fail
  all_goals first | (exfalso; omega) | skip
  refine JC.loop (fun i => i == 1 || i == 7 || Nat.ble 13 i) (fun m g L' => ∃ i, g 1 = .int .i64 ((i : Nat) : Int) ∧ i < s.ns.length ∧ n - (nd s.ns i).p = m ∧ fn n s.ns i (asgS order x) = fn n s.ns a (asgS order x) ∧ L' = [[(b1, Obj.cells ⟨[.int .i64 (a : Int)]⟩ 3 (0, 0))], [(b5, Obj.cells ⟨[.int .u64 (x.1 : Int), .int .u64 (x.2 : Int)]⟩ 44 (0, 0))]]) (n - (nd s.ns a).p) ⟨a, rfl, ha, rfl, rfl, rfl⟩ ?_
  rintro m1 g1 L' ⟨i, e1, hi, hm, hfn, rfl⟩
  refine JC.pin 1 e1 ?_
  rcases Nat.lt_or_ge i 2 with h2 | h2
  · have hv : fn n s.ns a (asgS order x) = decide (i = 1) := by rw [← hfn]; unfold fn; exact ev_const _ _ _ h2 _
    repeat' first
      | (refine J.isJ ?_; first | (fail) | (first | (refine J.o 0 ?_; refine J.ev' hΓ ?_) | refine J.nil ?_ | (refine J.o 4 ?_; first | refine J.lT default hΓ ?_ | refine J.lR hΓ ?_) | (refine J.o 3 ?_; first | refine J.iJ hΓ ?_ | refine J.ev' hΓ ?_) | (refine J.o 5 ?_; first | refine J.t0 hΓ ?_) | (refine J.o 6 ?_; refine J.bx (fun _ => ?_)) | (refine J.o 7 ?_; refine J.al hΓ (fun _ => ?_)) | (refine J.o 9 ?_; refine J.bl hΓ (fun _ => ?_)) | (refine J.o 10 ?_; refine J.ev' hΓ ?_) | (refine J.o 11 ?_; refine J.ev' hΓ ?_)))
      | (first | refine JC.seq ?_ | refine JC.region ?_ | refine JC.block ?_ | refine JC.ret ?_ | refine JC.exit ?_ | refine JC.skip ?_ | refine thenK.nn ?_ | refine thenK.x ?_ | refine blockK.nn ?_ | refine blockK.hit rfl ?_ | refine JC.condF rfl ?_ | (refine JC.cond rfl (fun hc => ?_) (fun hc => ?_) <;> ((try simp only [decide_eq_true_eq, decide_eq_false_iff_not, beq_iff_eq, beq_eq_false_iff_ne, bne_iff_ne, bne_eq_false_iff_eq, Bool.not_eq_true', Bool.not_eq_false', Bool.not_eq_true, Bool.not_eq_false] at hc) <;> first | (first | (exact absurd rfl hc) | (exfalso; omega) | (exact absurd (hc.symm.trans (by assumption : _ = false)) (by decide)) | (exact absurd (hc.symm.trans (by assumption : _ = true)) (by decide))) | skip)) | refine drawK.nn ?_ | refine loopK.x ?_)
      | (fail)
      | fail
    all_goals first | (exfalso; omega) | skip
    all_goals (refine ret1f rfl rfl rfl (fun w1 hw => ⟨?_, hw.below⟩))
    rw [hv]
    refine congrArg (fun z : Bool => Ending.returned (Value.bool z)) ?_
    exact decide_eq_decide.2 (by omega)
  · have hp := so.wf.pl i h2 hi
    have hlp := so.wf.lp i h2 hi
    have hhp := so.wf.hp i h2 hi
    have hp1 : (s.ns.getD i default).p < K.no := by rw [hno]; exact hp
    have hp2 : (s.ns.getD i default).p < order.length := by rw [← hpl]; exact hp1
    have cH := fun w => has_any x hx (order.getD (s.ns.getD i default).p default) w
    have cP := fun L1 w1 (hw : H w (stR K b s hO) L1 w1) hi2 => part_any K b s.an s.cn s.ns (stR K b s hO) hsl List.mem_cons_self i (s.ns.getD i default).p hi2 hi w1 (hw.rdH (q0 _))
    repeat' first
      | (refine J.isJ ?_; first | (first | (refine J.o 7 ?_; refine J.al hΓ (fun b7 => ?_)) | (refine J.o 4 ?_; first | refine J.lR hΓ ?_ (hr := rb _) | (refine J.lT default hΓ ?_ (hs := hsl) (hr := q0 _)) | (refine J.lT default hΓ ?_ (hs := hso) (hr := q0 _)) | refine J.lR hΓ ?_ (hr := Rd.hd.tl.tl)) | (refine J.fc 52 ?_; refine J.call0 eHas rfl rfl (fun w hw => cH w) ?_) | (refine J.fc 51 ?_; refine J.call0 ePart rfl rfl (fun w hw => cP _ w hw _) ?_)) | (first | (refine J.o 0 ?_; refine J.ev' hΓ ?_) | refine J.nil ?_ | (refine J.o 4 ?_; first | refine J.lT default hΓ ?_ | refine J.lR hΓ ?_) | (refine J.o 3 ?_; first | refine J.iJ hΓ ?_ | refine J.ev' hΓ ?_) | (refine J.o 5 ?_; first | refine J.t0 hΓ ?_) | (refine J.o 6 ?_; refine J.bx (fun _ => ?_)) | (refine J.o 7 ?_; refine J.al hΓ (fun _ => ?_)) | (refine J.o 9 ?_; refine J.bl hΓ (fun _ => ?_)) | (refine J.o 10 ?_; refine J.ev' hΓ ?_) | (refine J.o 11 ?_; refine J.ev' hΓ ?_)))
      | (first | refine JC.seq ?_ | refine JC.region ?_ | refine JC.block ?_ | refine JC.ret ?_ | refine JC.exit ?_ | refine JC.skip ?_ | refine thenK.nn ?_ | refine thenK.x ?_ | refine blockK.nn ?_ | refine blockK.hit rfl ?_ | refine JC.condF rfl ?_ | (refine JC.cond rfl (fun hc => ?_) (fun hc => ?_) <;> ((try simp only [decide_eq_true_eq, decide_eq_false_iff_not, beq_iff_eq, beq_eq_false_iff_ne, bne_iff_ne, bne_eq_false_iff_eq, Bool.not_eq_true', Bool.not_eq_false', Bool.not_eq_true, Bool.not_eq_false] at hc) <;> first | (first | (exact absurd rfl hc) | (exfalso; omega) | (exact absurd (hc.symm.trans (by assumption : _ = false)) (by decide)) | (exact absurd (hc.symm.trans (by assumption : _ = true)) (by decide))) | skip)) | refine drawK.nn ?_ | refine loopK.x ?_)
      | ((refine JC.drawO [(0,0),(0,1),(0,2),(1,3),(1,4),(0,5),(0,6),(0,7),(1,8),(0,9),(1,10),(0,11),(1,12),(1,13),(1,14),(0,15)] (by decide +kernel) (by decide +kernel) ?_))
      | fail
    all_goals first | (exfalso; omega) | skip
    have hpt : ∀ β, partN s.ns i (nd s.ns i).p β = if β then (nd s.ns i).h else (nd s.ns i).l := fun β => by unfold partN; rw [if_neg (fun h => h rfl)]
    have hst : fn n s.ns (partN s.ns i (nd s.ns i).p (hasB x (order.getD (nd s.ns i).p default))) (asgS order x) = fn n s.ns i (asgS order x) := part_fn so.wf (asgS order x) hi hp
    have hlt := part_lt so.wf (hasB x (order.getD (nd s.ns i).p default)) hi hp
    refine loopK.np (n - (nd s.ns (partN s.ns i (nd s.ns i).p (hasB x (order.getD (nd s.ns i).p default)))).p) [_] _ ?_ (by repeat (first | refine Ag.upd rfl ?_ | exact Ag.hv)) (List.Perm.refl _) ⟨_, rfl, hlt, rfl, hst.trans hfn, rfl⟩
    have := part_p so.wf (hasB x (order.getD (nd s.ns i).p default)) hi hp (Nat.le_refl _)
    have := so.wf.ple hlt
    omega
end Go.Proofs.YtbhgahjeocnfcaaGreat
namespace Go.Proofs.YtbhgahjeocnfcaaGreat
open Go Go.Cx
set_option linter.unusedVariables false
set_option linter.unusedSimpArgs false
def stepB (half : Nat) (acc : List (List Bool)) (b : List Bool) : List (List Bool) := if b.take half = b.drop half ∨ b ∈ acc then acc else acc ++ [b]
def stepN (ns : List N3) (k : Nat) (acc : List Nat) (j : Nat) : List Nat := if (nd ns j).p ≠ k ∨ j ∈ acc then acc else acc ++ [j]
theorem blk_half {n : Nat} {ns : List N3} (w : WF n ns) {k j : Nat} (hk : k < n) (hp : k ≤ (nd ns j).p) (hj : j < ns.length) : ((blk n ns k j).take (2 ^ (n - k - 1)) = (blk n ns k j).drop (2 ^ (n - k - 1))) ↔ (nd ns j).p ≠ k := by
  have hl : ∀ x, (blk n ns (k + 1) x).length = 2 ^ (n - k - 1) := fun x => by rw [blk_len, Nat.sub_add_eq]
  rcases Nat.lt_or_ge k (nd ns j).p with h | h
  · rw [blk_later w hj h, List.take_left' (hl j), List.drop_left' (hl j)]
    exact ⟨fun _ => by omega, fun _ => rfl⟩
  · have e : (nd ns j).p = k := by omega
    have h2 := w.nonconst (show (nd ns j).p < n by omega)
    have hb := blk_node w h2 hj
    rw [e] at hb
    have hlp := w.lp j h2 hj
    have hhp := w.hp j h2 hj
    rw [hb, List.take_left' (hl _), List.drop_left' (hl _), blk_eq w (by omega) (by omega) (w.ll j h2 hj) (w.hl j h2 hj)]
    exact ⟨fun h => (w.ne j h2 hj h).elim, fun h => (h e).elim⟩
theorem fold_BN {n : Nat} {ns : List N3} (w : WF n ns) {k : Nat} (hk : k < n) : ∀ (js acc : List Nat), (∀ j ∈ js, j < ns.length ∧ k ≤ (nd ns j).p) → (∀ j ∈ acc, j < ns.length ∧ k ≤ (nd ns j).p) →
    (js.map (blk n ns k)).foldl (stepB (2 ^ (n - k - 1))) (acc.map (blk n ns k)) = (js.foldl (stepN ns k) acc).map (blk n ns k)
  | [], acc, _, _ => rfl
  | j :: js, acc, h1, h2 => by
    obtain ⟨hj, hp⟩ := h1 j (by simp)
    have hmem : blk n ns k j ∈ acc.map (blk n ns k) ↔ j ∈ acc := by
      rw [List.mem_map]
      constructor
      · rintro ⟨x, hx, he⟩
        obtain ⟨g1, g2⟩ := h2 x hx
        rw [← (blk_eq w g2 hp g1 hj).1 he]; exact hx
      · intro h; exact ⟨j, h, rfl⟩
    have hc := blk_half w hk hp hj
    have hs : stepB (2 ^ (n - k - 1)) (acc.map (blk n ns k)) (blk n ns k j) = (stepN ns k acc j).map (blk n ns k) := by
      unfold stepB stepN
      by_cases h : (nd ns j).p ≠ k ∨ j ∈ acc
      · rw [if_pos h, if_pos (h.imp hc.2 hmem.2)]
      · rw [if_neg h, if_neg (fun g => h (g.imp hc.1 hmem.1)), List.map_append]; rfl
    rw [List.map_cons, List.foldl_cons, List.foldl_cons, hs]
    refine fold_BN w hk js _ (fun x hx => h1 x (by simp [hx])) (fun x hx => ?_)
    unfold stepN at hx
    split at hx
    · exact h2 x hx
    · rcases List.mem_append.1 hx with hx | hx
      · exact h2 x hx
      · rw [List.mem_singleton.1 hx]; exact ⟨hj, hp⟩
theorem foldN_mem (ns : List N3) (k : Nat) : ∀ (js acc : List Nat) (x : Nat), x ∈ js.foldl (stepN ns k) acc ↔ x ∈ acc ∨ (x ∈ js ∧ (nd ns x).p = k)
  | [], acc, x => by simp
  | j :: js, acc, x => by
    rw [List.foldl_cons, foldN_mem ns k js]
    unfold stepN
    split
    · rename_i h
      constructor
      · rintro (h1 | ⟨h1, h2⟩)
        · exact .inl h1
        · exact .inr ⟨by simp [h1], h2⟩
      · rintro (h1 | ⟨h1, h2⟩)
        · exact .inl h1
        · rcases List.mem_cons.1 h1 with rfl | h1
          · rcases h with h | h
            · exact absurd h2 h
            · exact .inl h
          · exact .inr ⟨h1, h2⟩
    · rename_i h
      have hp : (nd ns j).p = k := Classical.byContradiction fun g => h (.inl g)
      rw [List.mem_append, List.mem_singleton]
      constructor
      · rintro ((h1 | rfl) | ⟨h1, h2⟩)
        · exact .inl h1
        · exact .inr ⟨by simp, hp⟩
        · exact .inr ⟨by simp [h1], h2⟩
      · rintro (h1 | ⟨h1, h2⟩)
        · exact .inl (.inl h1)
        · rcases List.mem_cons.1 h1 with rfl | h1
          · exact .inl (.inr rfl)
          · exact .inr ⟨h1, h2⟩
theorem foldN_nodup (ns : List N3) (k : Nat) : ∀ (js acc : List Nat), acc.Nodup → (js.foldl (stepN ns k) acc).Nodup
  | [], acc, h => h
  | j :: js, acc, h => by
    rw [List.foldl_cons]
    refine foldN_nodup ns k js _ ?_
    unfold stepN
    split
    · exact h
    · rename_i hn
      rw [List.nodup_append]
      refine ⟨h, by simp, fun x hx y hy => ?_⟩
      rw [List.mem_singleton.1 hy]
      intro e; subst e
      exact hn (.inr hx)
def chunks (m c : Nat) (t : List Bool) : List (List Bool) := (List.range c).map fun q => (t.drop (q * m)).take m
theorem chunks_flat (m : Nat) : ∀ (L : List (List Bool)), (∀ b ∈ L, b.length = m) → chunks m L.length L.flatten = L
  | [], _ => rfl
  | b :: L, h => by
    have ih := chunks_flat m L fun x hx => h x (by simp [hx])
    have hb := h b (by simp)
    unfold chunks at ih ⊢
    rw [List.length_cons, List.range_succ_eq_map, List.map_cons, List.map_map, List.flatten_cons]
    congr 1
    · rw [Nat.zero_mul, List.drop_zero, ← hb, List.take_left']; rfl
    · conv => rhs; rw [← ih]
      refine List.map_congr_left fun q _ => ?_
      show ((b ++ L.flatten).drop ((q + 1) * m)).take m = _
      rw [show (q + 1) * m = b.length + q * m by rw [hb, Nat.add_mul]; omega, List.drop_append]
      rw [List.drop_of_length_le (by omega), List.nil_append]
      congr 2; omega
def lvC (n k : Nat) (t : List Bool) : Nat := ((chunks (2 ^ (n - k)) (2 ^ k) t).foldl (stepB (2 ^ (n - k - 1))) []).length
def sizeT (n : Nat) (t : List Bool) : Nat := ((List.range n).map fun k => lvC n k t).sum
theorem lvl_len (n : Nat) (ns : List N3) (i : Nat) : ∀ k, (lvl n ns i k).length = 2 ^ k
  | 0 => rfl
  | k + 1 => by
    have : ∀ l : List Nat, (l.flatMap fun j => if (nd ns j).p = k then [(nd ns j).l, (nd ns j).h] else [j, j]).length = 2 * l.length := fun l => by
      induction l with
      | nil => rfl
      | cons x l ih => rw [List.flatMap_cons, List.length_append, ih, List.length_cons]; split <;> simp <;> omega
    rw [lvl, this, lvl_len n ns i k, Nat.pow_succ, Nat.mul_comm]
theorem lvC_eq {n : Nat} {ns : List N3} (w : WF n ns) {i k : Nat} (hi : i < ns.length) (hk : k < n) : lvC n k (tab n ns i) = ((lvl n ns i k).foldl (stepN ns k) []).length := by
  have ht := tab_lvl w hi k (by omega)
  have hch := chunks_flat (2 ^ (n - k)) ((lvl n ns i k).map (blk n ns k)) (fun b hb => by
    obtain ⟨j, _, rfl⟩ := List.mem_map.1 hb; exact blk_len n ns k j)
  rw [List.length_map, lvl_len] at hch
  have hf : (lvl n ns i k).flatMap (blk n ns k) = ((lvl n ns i k).map (blk n ns k)).flatten := rfl
  unfold lvC
  rw [ht, hf, hch]
  have := fold_BN w hk (lvl n ns i k) [] (fun j hj => by obtain ⟨h1, h2, _⟩ := lvl_ok w hi k (by omega) j hj; exact ⟨h1, h2⟩) (fun j hj => by cases hj)
  rw [List.map_nil] at this
  rw [this, List.length_map]
def allN (n : Nat) (ns : List N3) (i : Nat) : Nat → List Nat
  | 0 => []
  | m + 1 => allN n ns i m ++ (lvl n ns i m).foldl (stepN ns m) []
theorem allN_mem {n : Nat} {ns : List N3} (w : WF n ns) {i : Nat} (hi : i < ns.length) : ∀ m, m ≤ n → ∀ j, j ∈ allN n ns i m ↔ (Rch ns i j ∧ 2 ≤ j ∧ (nd ns j).p < m)
  | 0, _, j => by simp [allN]
  | m + 1, hm, j => by
    rw [allN, List.mem_append, allN_mem w hi m (by omega), foldN_mem, lvl_iff w hi (by omega)]
    constructor
    · rintro (⟨h1, h2, h3⟩ | h | ⟨h1, h2, h3⟩)
      · exact ⟨h1, h2, by omega⟩
      · cases h
      · exact ⟨h1, h2, by omega⟩
    · rintro ⟨h1, h2, h3⟩
      rcases Nat.lt_or_ge (nd ns j).p m with h | h
      · exact .inl ⟨h1, h2, h⟩
      · exact .inr (.inr ⟨h1, h2, by omega⟩)
theorem allN_nodup {n : Nat} {ns : List N3} (w : WF n ns) {i : Nat} (hi : i < ns.length) : ∀ m, m ≤ n → (allN n ns i m).Nodup
  | 0, _ => List.nodup_nil
  | m + 1, hm => by
    rw [allN, List.nodup_append]
    refine ⟨allN_nodup w hi m (by omega), foldN_nodup ns m _ _ List.nodup_nil, fun x hx y hy e => ?_⟩
    subst e
    have h1 := ((allN_mem w hi m (by omega) x).1 hx).2.2
    rcases (foldN_mem ns m _ _ x).1 hy with h | ⟨_, h⟩
    · cases h
    · omega
theorem allN_len {n : Nat} {ns : List N3} (w : WF n ns) {i : Nat} (hi : i < ns.length) : ∀ m, m ≤ n → (allN n ns i m).length = ((List.range m).map fun k => lvC n k (tab n ns i)).sum
  | 0, _ => rfl
  | m + 1, hm => by
    rw [allN, List.length_append, allN_len w hi m (by omega), List.range_succ, List.map_append, List.sum_append, ← lvC_eq w hi (by omega)]
    simp
theorem nodup_sub {α : Type} : ∀ (l m : List α), l.Nodup → (∀ x ∈ l, x ∈ m) → l.length ≤ m.length
  | [], _, _, _ => Nat.zero_le _
  | x :: l, m, hn, hs => by
    obtain ⟨h1, h2⟩ := List.nodup_cons.1 hn
    obtain ⟨s, t, rfl⟩ := List.append_of_mem (hs x (by simp))
    have := nodup_sub l (s ++ t) h2 fun y hy => by
      have h3 := hs y (by simp [hy])
      rcases List.mem_append.1 h3 with h4 | h4
      · exact List.mem_append_left _ h4
      · rcases List.mem_cons.1 h4 with h5 | h5
        · subst h5; exact absurd hy h1
        · exact List.mem_append_right _ h5
    simp only [List.length_append, List.length_cons] at this ⊢
    omega
theorem size_eq {n : Nat} {ns : List N3} (w : WF n ns) {i : Nat} (hi : i < ns.length) {l : List Int} (hn : l.Nodup) (hm : ∀ x : Int, x ∈ l ↔ ∃ j : Nat, x = (j : Int) ∧ 2 ≤ j ∧ Rch ns i j) : l.length = sizeT n (tab n ns i) := by
  have h1 := allN_nodup w hi n (Nat.le_refl n)
  have h2 := allN_len w hi n (Nat.le_refl n)
  have h3 : ∀ j, j ∈ allN n ns i n ↔ (2 ≤ j ∧ Rch ns i j) := fun j => by
    rw [allN_mem w hi n (Nat.le_refl n)]
    constructor
    · rintro ⟨g1, g2, _⟩; exact ⟨g2, g1⟩
    · rintro ⟨g1, g2⟩; exact ⟨g2, g1, w.pl j g1 (g2.lt w hi)⟩
  have h4 : ((allN n ns i n).map fun j : Nat => (j : Int)).Nodup := by
    rw [List.Nodup, List.pairwise_map]
    exact h1.imp fun h e => h (by omega)
  unfold sizeT
  rw [← h2]
  have a1 := nodup_sub l ((allN n ns i n).map fun j : Nat => (j : Int)) hn fun x hx => by
    obtain ⟨j, rfl, g⟩ := (hm x).1 hx
    exact List.mem_map.2 ⟨j, (h3 j).2 g, rfl⟩
  have a2 := nodup_sub ((allN n ns i n).map fun j : Nat => (j : Int)) l h4 fun x hx => by
    obtain ⟨j, hj, rfl⟩ := List.mem_map.1 hx
    exact (hm _).2 ⟨j, rfl, (h3 j).1 hj⟩
  rw [List.length_map] at a1 a2
  omega
end Go.Proofs.YtbhgahjeocnfcaaGreat
namespace Go.Proofs.YtbhgahjeocnfcaaGreat
open Go Go.Cx Go.RowKit
set_option linter.unusedVariables false
set_option linter.unusedSimpArgs false
set_option maxHeartbeats 4000000
attribute [local irreducible] J JC thenK blockK loopK roundK drawK retK QW Qt pel List.set Calls
set_option maxRecDepth 8000
attribute [local irreducible] JE Br eK0 eK3 brK pc
def Sls {α : Type} (enc : α → List Value) (size : Nat) (e : TypeId) (ts : List α) (v : Value) (h : Heap) : Prop := ∃ a cap, v = .slice a ts.length cap ∧ OwT enc size e a cap ts h
theorem set_ext {a b : Nat × Nat} (ha : okS a) (hb : okS b) (h : ∀ u : Int, 1 ≤ u → u ≤ 128 → hasB a u = hasB b u) : a = b := by
  obtain ⟨a1, a2⟩ := a
  obtain ⟨b1, b2⟩ := b
  have big : ∀ (x : Nat) (i : Nat), x < 2 ^ 64 → 64 ≤ i → x.testBit i = false := fun x i hx hi => Nat.testBit_lt_two_pow (Nat.lt_of_lt_of_le hx (Nat.pow_le_pow_right (by omega) hi))
  congr 1
  · apply Nat.eq_of_testBit_eq
    intro i
    by_cases hi : i < 64
    · have := h ((i : Int) + 1) (by omega) (by omega)
      unfold hasB at this
      rw [if_pos (by omega), if_pos (by omega)] at this
      have e : ((i : Int) + 1 - 1).toNat = i := by omega
      rw [e] at this
      exact this
    · rw [big a1 i ha.1 (by omega), big b1 i hb.1 (by omega)]
  · apply Nat.eq_of_testBit_eq
    intro i
    by_cases hi : i < 64
    · have := h ((i : Int) + 65) (by omega) (by omega)
      unfold hasB at this
      rw [if_neg (by omega), if_pos (by omega), if_neg (by omega), if_pos (by omega)] at this
      have e : ((i : Int) + 65 - 65).toNat = i := by omega
      rw [e] at this
      exact this
    · rw [big a2 i ha.2 (by omega), big b2 i hb.2 (by omega)]
theorem ofS_has : ∀ (l : List Int) (s : Nat × Nat) (u : Int), hasB (l.foldl withS s) u = true ↔ (hasB s u = true ∨ (u ∈ l ∧ 1 ≤ u ∧ u ≤ 128))
  | [], s, u => by simp
  | x :: l, s, u => by
    rw [List.foldl_cons, ofS_has l]
    by_cases hx : 1 ≤ x ∧ x ≤ 128
    · rw [has_with s x u hx]
      constructor
      · rintro ((h | rfl) | ⟨h1, h2⟩)
        · exact .inl h
        · exact .inr ⟨by simp, hx⟩
        · exact .inr ⟨by simp [h1], h2⟩
      · rintro (h | ⟨h1, h2⟩)
        · exact .inl (.inl h)
        · rcases List.mem_cons.1 h1 with rfl | h1
          · exact .inl (.inr rfl)
          · exact .inr ⟨h1, h2⟩
    · have e1 : withS s x = s := by unfold withS; rw [if_neg (by omega), if_neg (by omega)]
      rw [e1]
      constructor
      · rintro (h | ⟨h1, h2⟩)
        · exact .inl h
        · exact .inr ⟨by simp [h1], h2⟩
      · rintro (h | ⟨h1, h2⟩)
        · exact .inl h
        · rcases List.mem_cons.1 h1 with rfl | h1
          · exact (hx h2).elim
          · exact .inr ⟨h1, h2⟩
instance (l : List Int) : Decidable (okOrd l) := by unfold okOrd; infer_instance
end Go.Proofs.YtbhgahjeocnfcaaGreat
namespace Go.Proofs.YtbhgahjeocnfcaaGreat
open Go Go.Cx Go.RowKit
set_option linter.unusedVariables false
set_option linter.unusedSimpArgs false
set_option maxHeartbeats 4000000
attribute [local irreducible] J JC thenK blockK loopK roundK drawK retK QW Qt pel List.set Calls
open Go.Maps Go.Lib
set_option maxRecDepth 8000
attribute [local irreducible] JE Br eK0 eK3 brK pc
theorem Adds.trans {n : Nat} {K : KS} {s s1 s2 : SS} {m1 m2 y1 y2 : Nat} (h : Adds n K s s1 m1 y1) (g : Adds n K s1 s2 m2 y2) : Adds n K s s2 (m1 + m2) y2 :=
  ⟨g.ok, h.ext.trans g.ext, by have := h.le; have := g.le; omega, g.lt⟩
theorem Adds.mono {n : Nat} {K : KS} {s s1 : SS} {m1 m2 y1 : Nat} (h : Adds n K s s1 m1 y1) (hm : m1 ≤ m2) : Adds n K s s1 m2 y1 :=
  ⟨h.ok, h.ext, by have := h.le; omega, h.lt⟩
theorem Adds.refl {n : Nat} {K : KS} {s : SS} (so : SOk n K s) {y : Nat} (hy : y < s.ns.length) : Adds n K s s 0 y := ⟨so, Ext.refl _, Nat.le_refl _, hy⟩
theorem Adds.old {n : Nat} {K : KS} {s s1 : SS} {m1 y1 y : Nat} (h : Adds n K s s1 m1 y1) (hy : y < s.ns.length) : y < s1.ns.length := Nat.lt_of_lt_of_le hy h.ext.le
theorem pow8 {n : Nat} (h : n ≤ 8) : 2 ^ n ≤ 256 := Nat.pow_le_pow_right (n := 2) (by omega) h
theorem slT_take {α : Type} {enc : α → List Value} {size : Nat} {a : Option Addr} {ts : List α} {h : Heap} (hs : SlT enc size a ts h) (k : Nat) : SlT enc size a (ts.take k) h := by
  refine ⟨hs.len, fun i hi => ?_⟩
  rw [List.length_take] at hi
  obtain ⟨b, off, cs, e, fr, h1, h2, h3, h4⟩ := hs.at_ i (by omega)
  exact ⟨b, off, cs, e, fr, h1, h2, h3, by rw [h4, List.getElem_take]⟩
theorem slT_drop {α : Type} {enc : α → List Value} {size : Nat} {a : Option Addr} {ts : List α} {h : Heap} (hs : SlT enc size a ts h) (k cap : Nat) (hc : ts.length ≤ cap) : SlT enc size (if cap = k then a else a.map (·.add (k * size))) (ts.drop k) h := by
  refine ⟨hs.len, fun i hi => ?_⟩
  rw [List.length_drop] at hi
  obtain ⟨b, off, cs, e, fr, h1, h2, h3, h4⟩ := hs.at_ (k + i) (by omega)
  rw [if_neg (by omega), h1]
  have ha : (⟨b, off, none⟩ : Addr).add (k * size) = ⟨b, off + k * size, none⟩ := by
    unfold Addr.add
    split
    · rename_i h0; rw [h0]; rfl
    · rfl
  refine ⟨b, off + k * size, cs, e, fr, by rw [Option.map_some, ha], h2, ?_, ?_⟩
  · rw [show off + k * size + (i + 1) * size = off + (k + i + 1) * size by rw [Nat.add_assoc, ← Nat.add_mul, Nat.add_assoc]]; exact h3
  · rw [show off + k * size + i * size = off + (k + i) * size by rw [Nat.add_assoc, ← Nat.add_mul], h4, List.getElem_drop]
end Go.Proofs.YtbhgahjeocnfcaaGreat
