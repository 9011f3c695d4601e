/- Tables of nodes: sizes and counts, in plain Lean. -/
import Derived.Test.YthnhijdfcmcnhaaBb
namespace Go.Proofs.Ythnhijdfcmcnhaa
open Go Go.Cx
set_option linter.unusedVariables false
set_option linter.unusedSimpArgs false
/-- the assignment with an index: the first place counts most -/
def asg (n i : Nat) : Nat → Bool := fun k => decide (k < n) && i.testBit (n - 1 - k)
theorem asg_hi {n m r k : Nat} (hm : n - k = m + 1) : asg n (r + 2 ^ m) k = !(asg n r k) := by
  unfold asg
  have e : n - 1 - k = m := by omega
  have hk : k < n := by omega
  rw [e, decide_eq_true hk, Bool.true_and, Bool.true_and, Nat.add_comm, Nat.testBit_two_pow_add_eq]
theorem asg_lt {n m r k : Nat} (hm : n - k = m + 1) (h : r < 2 ^ m) : asg n r k = false := by
  unfold asg
  have e : n - 1 - k = m := by omega
  rw [e, Nat.testBit_lt_two_pow h, Bool.and_false]
theorem asg_other {n m r k j : Nat} (hm : n - k = m + 1) (hj : k < j) : asg n (r + 2 ^ m) j = asg n r j := by
  unfold asg
  by_cases hn : j < n
  · rw [decide_eq_true hn, Bool.true_and, Bool.true_and, Nat.add_comm, Nat.testBit_two_pow_add_gt (by omega)]
  · rw [decide_eq_false hn, Bool.false_and, Bool.false_and]
/-- what a node says where the places ahead of k are false -/
def blk (n : Nat) (ns : List N3) (k i : Nat) : List Bool := (List.range (2 ^ (n - k))).map fun r => fn n ns i (asg n r)
def tab (n : Nat) (ns : List N3) (i : Nat) : List Bool := blk n ns 0 i
theorem range_two (m : Nat) : List.range (2 ^ (m + 1)) = List.range (2 ^ m) ++ (List.range (2 ^ m)).map (· + 2 ^ m) := by
  rw [Nat.pow_succ, Nat.mul_two, List.range_add]
  congr 1
  exact List.map_congr_left fun a _ => Nat.add_comm _ _
theorem blk_len (n : Nat) (ns : List N3) (k i : Nat) : (blk n ns k i).length = 2 ^ (n - k) := by simp [blk]
theorem blk_later {n : Nat} {ns : List N3} (w : WF n ns) {k i : Nat} (hi : i < ns.length) (hk : k < (nd ns i).p) : blk n ns k i = blk n ns (k + 1) i ++ blk n ns (k + 1) i := by
  have := w.ple hi
  obtain ⟨m, hm⟩ : ∃ m, n - k = m + 1 := ⟨n - k - 1, by omega⟩
  unfold blk
  rw [hm, show n - (k + 1) = m by omega, range_two, List.map_append, List.map_map]
  congr 1
  refine List.map_congr_left fun r hr => fn_dep w _ i (Nat.le_refl _) hi fun j hj => asg_other hm (by omega)
theorem blk_node {n : Nat} {ns : List N3} (w : WF n ns) {i : Nat} (h2 : 2 ≤ i) (hi : i < ns.length) :
    blk n ns (nd ns i).p i = blk n ns ((nd ns i).p + 1) (nd ns i).l ++ blk n ns ((nd ns i).p + 1) (nd ns i).h := by
  have := w.pl i h2 hi
  have hl := w.lp i h2 hi
  have hh := w.hp i h2 hi
  obtain ⟨m, hm⟩ : ∃ m, n - (nd ns i).p = m + 1 := ⟨n - (nd ns i).p - 1, by omega⟩
  unfold blk
  rw [hm, show n - ((nd ns i).p + 1) = m by omega, range_two, List.map_append, List.map_map]
  congr 1
  · refine List.map_congr_left fun r hr => ?_
    rw [fn_node w _ h2 hi, asg_lt hm (List.mem_range.1 hr)]; rfl
  · refine List.map_congr_left fun r hr => ?_
    show fn n ns i (asg n (r + 2 ^ m)) = _
    rw [fn_node w _ h2 hi, asg_hi hm, asg_lt hm (List.mem_range.1 hr)]
    exact fn_dep w _ _ (Nat.le_refl _) (w.hl i h2 hi) fun j hj => asg_other hm (by omega)
theorem blk_end {n : Nat} {ns : List N3} (w : WF n ns) {i : Nat} (h2 : i < 2) : blk n ns n i = [decide (i = 1)] := by
  unfold blk
  rw [Nat.sub_self]
  show [fn n ns i _] = _
  unfold fn; rw [ev_const _ _ _ h2]
/-- equal blocks are equal nodes -/
theorem blk_inj {n : Nat} {ns : List N3} (w : WF n ns) : ∀ (m k i j : Nat), n - k ≤ m → k ≤ (nd ns i).p → k ≤ (nd ns j).p → i < ns.length → j < ns.length → blk n ns k i = blk n ns k j → ∀ a, fn n ns i a = fn n ns j a
  | m, k, i, j, hm, hki, hkj, hi, hj, h => fun a => by
    have hpi := w.ple hi
    have hpj := w.ple hj
    have len : ∀ x y, (blk n ns (k + 1) x).length = (blk n ns (k + 1) y).length := fun x y => by rw [blk_len, blk_len]
    -- the halves of a block and what they say
    have half : ∀ x, k ≤ (nd ns x).p → x < ns.length → k < n → ∃ l h, blk n ns k x = blk n ns (k + 1) l ++ blk n ns (k + 1) h ∧ k + 1 ≤ (nd ns l).p ∧ k + 1 ≤ (nd ns h).p ∧ l < ns.length ∧ h < ns.length ∧ fn n ns x a = if a k then fn n ns h a else fn n ns l a := by
      intro x hkx hx hkn
      rcases Nat.lt_or_ge k (nd ns x).p with hlt | hge
      · exact ⟨x, x, blk_later w hx hlt, hlt, hlt, hx, hx, by split <;> rfl⟩
      · have hp : (nd ns x).p = k := by omega
        have h2 := w.nonconst (show (nd ns x).p < n by omega)
        exact ⟨(nd ns x).l, (nd ns x).h, by have := blk_node w h2 hx; rw [hp] at this; exact this, by have := w.lp x h2 hx; omega, by have := w.hp x h2 hx; omega, w.ll x h2 hx, w.hl x h2 hx, by rw [fn_node w a h2 hx, hp]⟩
    rcases Nat.lt_or_ge k n with hkn | hkn
    · obtain ⟨m', rfl⟩ : ∃ m', m = m' + 1 := ⟨m - 1, by omega⟩
      obtain ⟨l1, h1, e1, a1, b1, c1, d1, f1⟩ := half i hki hi hkn
      obtain ⟨l2, h2, e2, a2, b2, c2, d2, f2⟩ := half j hkj hj hkn
      rw [e1, e2] at h
      obtain ⟨g1, g2⟩ := List.append_inj h (len _ _)
      rw [f1, f2, blk_inj w m' (k + 1) h1 h2 (by omega) b1 b2 d1 d2 g2 a, blk_inj w m' (k + 1) l1 l2 (by omega) a1 a2 c1 c2 g1 a]
    · obtain rfl : k = n := by omega
      have hc : ∀ x, k ≤ (nd ns x).p → x < ns.length → x < 2 := fun x h hx => by
        rcases Nat.lt_or_ge x 2 with h2 | h2
        · exact h2
        · have := w.pl x h2 hx; omega
      rw [blk_end w (hc i hki hi), blk_end w (hc j hkj hj)] at h
      unfold fn
      rw [ev_const _ _ _ (hc i hki hi), ev_const _ _ _ (hc j hkj hj)]
      simpa using h
theorem blk_eq {n : Nat} {ns : List N3} (w : WF n ns) {k i j : Nat} (hki : k ≤ (nd ns i).p) (hkj : k ≤ (nd ns j).p) (hi : i < ns.length) (hj : j < ns.length) : blk n ns k i = blk n ns k j ↔ i = j :=
  ⟨fun h => w.eq hi hj (blk_inj w (n - k) k i j (Nat.le_refl _) hki hkj hi hj h), fun h => by rw [h]⟩
/-- the number of models over the places from a node's own on -/
def cS (ns : List N3) : Nat → Nat → Nat
  | 0, i => i
  | f + 1, i => if i < 2 then i else 2 ^ ((nd ns (nd ns i).l).p - (nd ns i).p - 1) * cS ns f (nd ns i).l + 2 ^ ((nd ns (nd ns i).h).p - (nd ns i).p - 1) * cS ns f (nd ns i).h
def cN (n : Nat) (ns : List N3) (i : Nat) : Nat := cS ns n i
theorem cS_const (ns : List N3) {i : Nat} (h : i < 2) : ∀ f, cS ns f i = i
  | 0 => rfl
  | f + 1 => by rw [cS, if_pos h]
theorem cS_fuel {n : Nat} {ns : List N3} (w : WF n ns) : ∀ (f g i : Nat), i < ns.length → n - (nd ns i).p ≤ f → n - (nd ns i).p ≤ g → cS ns f i = cS ns g i
  | f, g, i, hi, hf, hg => by
    rcases Nat.lt_or_ge i 2 with h2 | h2
    · rw [cS_const _ h2, cS_const _ h2]
    · have hp := w.pl i h2 hi
      obtain ⟨f', rfl⟩ : ∃ f', f = f' + 1 := ⟨f - 1, by omega⟩
      obtain ⟨g', rfl⟩ : ∃ g', g = g' + 1 := ⟨g - 1, by omega⟩
      have hl := w.lp i h2 hi
      have hh := w.hp i h2 hi
      have hn : ¬ i < 2 := by omega
      rw [cS, cS, if_neg hn, if_neg hn, cS_fuel w f' g' _ (w.ll i h2 hi) (by omega) (by omega), cS_fuel w f' g' _ (w.hl i h2 hi) (by omega) (by omega)]
theorem cN_const {n : Nat} {ns : List N3} {i : Nat} (h : i < 2) : cN n ns i = i := cS_const ns h n
theorem cN_node {n : Nat} {ns : List N3} (w : WF n ns) {i : Nat} (h2 : 2 ≤ i) (hi : i < ns.length) :
    cN n ns i = 2 ^ ((nd ns (nd ns i).l).p - (nd ns i).p - 1) * cN n ns (nd ns i).l + 2 ^ ((nd ns (nd ns i).h).p - (nd ns i).p - 1) * cN n ns (nd ns i).h := by
  have hp := w.pl i h2 hi
  have hl := w.lp i h2 hi
  have hh := w.hp i h2 hi
  unfold cN
  rw [cS_fuel w n ((n - 1) + 1) i hi (by omega) (by omega), cS, if_neg (by omega), cS_fuel w (n - 1) n _ (w.ll i h2 hi) (by omega) (by omega), cS_fuel w (n - 1) n _ (w.hl i h2 hi) (by omega) (by omega)]
theorem blk_count {n : Nat} {ns : List N3} (w : WF n ns) : ∀ (m k i : Nat), n - k ≤ m → k ≤ (nd ns i).p → i < ns.length → (blk n ns k i).count true = 2 ^ ((nd ns i).p - k) * cN n ns i
  | m, k, i, hm, hk, hi => by
    have hpi := w.ple hi
    rcases Nat.lt_or_ge k (nd ns i).p with hlt | hge
    · obtain ⟨m', rfl⟩ : ∃ m', m = m' + 1 := ⟨m - 1, by omega⟩
      rw [blk_later w hi hlt, List.count_append, blk_count w m' (k + 1) i (by omega) hlt hi, ← Nat.two_mul, ← Nat.mul_assoc, ← Nat.pow_succ', show ((nd ns i).p - (k + 1)).succ = (nd ns i).p - k by omega]
    · obtain rfl : k = (nd ns i).p := by omega
      rw [Nat.sub_self, Nat.pow_zero, Nat.one_mul]
      rcases Nat.lt_or_ge i 2 with h2 | h2
      · rw [w.pconst h2, blk_end w h2, cN_const h2]
        have : i = 0 ∨ i = 1 := by omega
        rcases this with rfl | rfl <;> rfl
      · have hp := w.pl i h2 hi
        have hl := w.lp i h2 hi
        have hh := w.hp i h2 hi
        obtain ⟨m', rfl⟩ : ∃ m', m = m' + 1 := ⟨m - 1, by omega⟩
        rw [blk_node w h2 hi, List.count_append, blk_count w m' _ _ (by omega) hl (w.ll i h2 hi), blk_count w m' _ _ (by omega) hh (w.hl i h2 hi), cN_node w h2 hi]
        rfl
theorem tab_count {n : Nat} {ns : List N3} (w : WF n ns) {i : Nat} (hi : i < ns.length) : 2 ^ (nd ns i).p * cN n ns i = (tab n ns i).count true := by
  unfold tab
  rw [blk_count w n 0 i (by omega) (by omega) hi, Nat.sub_zero]
theorem cN_le {n : Nat} {ns : List N3} (w : WF n ns) {i : Nat} (hi : i < ns.length) : 2 ^ (nd ns i).p * cN n ns i ≤ 2 ^ n := by
  rw [tab_count w hi]
  refine Nat.le_trans List.count_le_length ?_
  unfold tab
  rw [blk_len, Nat.sub_zero]; exact Nat.le_refl _
/-- reached from a node -/
inductive Rch (ns : List N3) (i : Nat) : Nat → Prop
  | refl : Rch ns i i
  | low {j : Nat} : Rch ns i j → 2 ≤ j → Rch ns i (nd ns j).l
  | high {j : Nat} : Rch ns i j → 2 ≤ j → Rch ns i (nd ns j).h
theorem Rch.lt {n : Nat} {ns : List N3} (w : WF n ns) {i j : Nat} (hi : i < ns.length) (h : Rch ns i j) : j < ns.length := by
  induction h with
  | refl => exact hi
  | low _ h2 ih => exact w.ll _ h2 ih
  | high _ h2 ih => exact w.hl _ h2 ih
theorem Rch.ext {n : Nat} {ns ms : List N3} (w : WF n ns) (e : Ext ns ms) {i j : Nat} (hi : i < ns.length) : Rch ms i j ↔ Rch ns i j := by
  constructor
  · intro h
    induction h with
    | refl => exact .refl
    | low _ h2 ih => rw [e.at_ _ (ih.lt w hi)]; exact .low ih h2
    | high _ h2 ih => rw [e.at_ _ (ih.lt w hi)]; exact .high ih h2
  · intro h
    induction h with
    | refl => exact .refl
    | low hr h2 ih => rw [← e.at_ _ (Rch.lt w hi hr)]; exact .low ih h2
    | high hr h2 ih => rw [← e.at_ _ (Rch.lt w hi hr)]; exact .high ih h2
theorem Rch.trans {ns : List N3} {i j k : Nat} (h : Rch ns i j) (g : Rch ns j k) : Rch ns i k := by
  induction g with
  | refl => exact h
  | low _ h2 ih => exact .low ih h2
  | high _ h2 ih => exact .high ih h2
/-- the nodes at the start of the blocks of places from k on, for all that comes ahead -/
def lvl (n : Nat) (ns : List N3) (i : Nat) : Nat → List Nat
  | 0 => [i]
  | k + 1 => (lvl n ns i k).flatMap fun j => if (nd ns j).p = k then [(nd ns j).l, (nd ns j).h] else [j, j]
theorem lvl_ok {n : Nat} {ns : List N3} (w : WF n ns) {i : Nat} (hi : i < ns.length) : ∀ k, k ≤ n → ∀ j ∈ lvl n ns i k, j < ns.length ∧ k ≤ (nd ns j).p ∧ Rch ns i j
  | 0, _, j, hj => by
    rw [List.mem_singleton.1 hj]; exact ⟨hi, Nat.zero_le _, .refl⟩
  | k + 1, hk, j, hj => by
    obtain ⟨x, hx, hj⟩ := List.mem_flatMap.1 hj
    obtain ⟨h1, h2, h3⟩ := lvl_ok w hi k (by omega) x hx
    split at hj
    · rename_i hp
      have h4 := w.nonconst (show (nd ns x).p < n by omega)
      rcases List.mem_cons.1 hj with rfl | hj
      · exact ⟨w.ll x h4 h1, by have := w.lp x h4 h1; omega, .low h3 h4⟩
      · rw [List.mem_singleton.1 hj]
        exact ⟨w.hl x h4 h1, by have := w.hp x h4 h1; omega, .high h3 h4⟩
    · have : j = x := by simpa using hj
      subst this
      exact ⟨h1, by omega, h3⟩
theorem lvl_rch {n : Nat} {ns : List N3} (w : WF n ns) {i j : Nat} (hi : i < ns.length) (h : Rch ns i j) : ∀ k, k ≤ (nd ns j).p → k ≤ n → (∃ x ∈ lvl n ns i k, Rch ns x j) := by
  intro k
  induction k with
  | zero => intro _ _; exact ⟨i, List.mem_singleton_self i, h⟩
  | succ k ih =>
    intro hk hn
    obtain ⟨x, hx, hr⟩ := ih (by omega) (by omega)
    obtain ⟨h1, h2, h3⟩ := lvl_ok w hi k (by omega) x hx
    by_cases hp : (nd ns x).p = k
    · have h4 := w.nonconst (show (nd ns x).p < n by omega)
      -- x is not j: the way goes over one of its parts
      have key : j = x ∨ Rch ns (nd ns x).l j ∨ Rch ns (nd ns x).h j := by
        clear hk ih h
        induction hr with
        | refl => exact .inl rfl
        | low hr h2 ih =>
          rcases ih with e | e | e
          · rw [e]; exact .inr (.inl .refl)
          · exact .inr (.inl (.low e h2))
          · exact .inr (.inr (.low e h2))
        | high hr h2 ih =>
          rcases ih with e | e | e
          · rw [e]; exact .inr (.inr .refl)
          · exact .inr (.inl (.high e h2))
          · exact .inr (.inr (.high e h2))
      rcases key with e | e | e
      · subst e; omega
      · exact ⟨_, List.mem_flatMap.2 ⟨x, hx, by rw [if_pos hp]; simp⟩, e⟩
      · exact ⟨_, List.mem_flatMap.2 ⟨x, hx, by rw [if_pos hp]; simp⟩, e⟩
    · exact ⟨x, List.mem_flatMap.2 ⟨x, hx, by rw [if_neg hp]; simp⟩, hr⟩
theorem rch_p {n : Nat} {ns : List N3} (w : WF n ns) {i j : Nat} (hi : i < ns.length) (h : Rch ns i j) : i = j ∨ (2 ≤ i ∧ (nd ns i).p < (nd ns j).p) := by
  induction h with
  | refl => exact .inl rfl
  | low hr h2 ih =>
    have h3 := w.lp _ h2 (hr.lt w hi)
    rcases ih with e | ⟨e1, e2⟩
    · subst e; exact .inr ⟨h2, h3⟩
    · exact .inr ⟨e1, by omega⟩
  | high hr h2 ih =>
    have h3 := w.hp _ h2 (hr.lt w hi)
    rcases ih with e | ⟨e1, e2⟩
    · subst e; exact .inr ⟨h2, h3⟩
    · exact .inr ⟨e1, by omega⟩
/-- the nodes of a place -/
theorem lvl_iff {n : Nat} {ns : List N3} (w : WF n ns) {i j k : Nat} (hi : i < ns.length) (hk : k < n) : (j ∈ lvl n ns i k ∧ (nd ns j).p = k) ↔ (Rch ns i j ∧ 2 ≤ j ∧ (nd ns j).p = k) := by
  constructor
  · rintro ⟨h1, h2⟩
    obtain ⟨h3, h4, h5⟩ := lvl_ok w hi k (by omega) j h1
    exact ⟨h5, w.nonconst (by omega), h2⟩
  · rintro ⟨h1, h2, h3⟩
    obtain ⟨x, hx, hr⟩ := lvl_rch w hi h1 k (by omega) (by omega)
    obtain ⟨h4, h5, _⟩ := lvl_ok w hi k (by omega) x hx
    rcases rch_p w h4 hr with e | ⟨_, e⟩
    · subst e; exact ⟨hx, h3⟩
    · omega
theorem flatMap_cong {α β : Type} {l : List α} {f g : α → List β} (h : ∀ x ∈ l, f x = g x) : l.flatMap f = l.flatMap g := by
  induction l with
  | nil => rfl
  | cons x l ih => rw [List.flatMap_cons, List.flatMap_cons, h x (by simp), ih fun y hy => h y (by simp [hy])]
/-- the table is the blocks of a level's nodes -/
theorem tab_lvl {n : Nat} {ns : List N3} (w : WF n ns) {i : Nat} (hi : i < ns.length) : ∀ k, k ≤ n → tab n ns i = (lvl n ns i k).flatMap (blk n ns k)
  | 0, _ => by simp [lvl, tab]
  | k + 1, hk => by
    rw [tab_lvl w hi k (by omega), lvl, List.flatMap_assoc]
    refine flatMap_cong fun j hj => ?_
    obtain ⟨h1, h2, _⟩ := lvl_ok w hi k (by omega) j hj
    split
    · rename_i hp
      have h4 := w.nonconst (show (nd ns j).p < n by omega)
      have := blk_node w h4 h1
      rw [hp] at this
      rw [this]; simp
    · rw [blk_later w h1 (by omega)]; simp
end Go.Proofs.Ythnhijdfcmcnhaa

/- Sizes out of tables, in plain Lean. -/
namespace Go.Proofs.Ythnhijdfcmcnhaa
open Go Go.Cx
set_option linter.unusedVariables false
set_option linter.unusedSimpArgs false
def stepB (half : Nat) (acc : List (List Bool)) (b : List Bool) : List (List Bool) := if b.take half = b.drop half ∨ b ∈ acc then acc else acc ++ [b]
def stepN (ns : List N3) (k : Nat) (acc : List Nat) (j : Nat) : List Nat := if (nd ns j).p ≠ k ∨ j ∈ acc then acc else acc ++ [j]
theorem blk_half {n : Nat} {ns : List N3} (w : WF n ns) {k j : Nat} (hk : k < n) (hp : k ≤ (nd ns j).p) (hj : j < ns.length) : ((blk n ns k j).take (2 ^ (n - k - 1)) = (blk n ns k j).drop (2 ^ (n - k - 1))) ↔ (nd ns j).p ≠ k := by
  have hl : ∀ x, (blk n ns (k + 1) x).length = 2 ^ (n - k - 1) := fun x => by rw [blk_len, Nat.sub_add_eq]
  rcases Nat.lt_or_ge k (nd ns j).p with h | h
  · rw [blk_later w hj h, List.take_left' (hl j), List.drop_left' (hl j)]
    exact ⟨fun _ => by omega, fun _ => rfl⟩
  · have e : (nd ns j).p = k := by omega
    have h2 := w.nonconst (show (nd ns j).p < n by omega)
    have hb := blk_node w h2 hj
    rw [e] at hb
    have hlp := w.lp j h2 hj
    have hhp := w.hp j h2 hj
    rw [hb, List.take_left' (hl _), List.drop_left' (hl _), blk_eq w (by omega) (by omega) (w.ll j h2 hj) (w.hl j h2 hj)]
    exact ⟨fun h => (w.ne j h2 hj h).elim, fun h => (h e).elim⟩
theorem fold_BN {n : Nat} {ns : List N3} (w : WF n ns) {k : Nat} (hk : k < n) : ∀ (js acc : List Nat), (∀ j ∈ js, j < ns.length ∧ k ≤ (nd ns j).p) → (∀ j ∈ acc, j < ns.length ∧ k ≤ (nd ns j).p) →
    (js.map (blk n ns k)).foldl (stepB (2 ^ (n - k - 1))) (acc.map (blk n ns k)) = (js.foldl (stepN ns k) acc).map (blk n ns k)
  | [], acc, _, _ => rfl
  | j :: js, acc, h1, h2 => by
    obtain ⟨hj, hp⟩ := h1 j (by simp)
    have hmem : blk n ns k j ∈ acc.map (blk n ns k) ↔ j ∈ acc := by
      rw [List.mem_map]
      constructor
      · rintro ⟨x, hx, he⟩
        obtain ⟨g1, g2⟩ := h2 x hx
        rw [← (blk_eq w g2 hp g1 hj).1 he]; exact hx
      · intro h; exact ⟨j, h, rfl⟩
    have hc := blk_half w hk hp hj
    have hs : stepB (2 ^ (n - k - 1)) (acc.map (blk n ns k)) (blk n ns k j) = (stepN ns k acc j).map (blk n ns k) := by
      unfold stepB stepN
      by_cases h : (nd ns j).p ≠ k ∨ j ∈ acc
      · rw [if_pos h, if_pos (h.imp hc.2 hmem.2)]
      · rw [if_neg h, if_neg (fun g => h (g.imp hc.1 hmem.1)), List.map_append]; rfl
    rw [List.map_cons, List.foldl_cons, List.foldl_cons, hs]
    refine fold_BN w hk js _ (fun x hx => h1 x (by simp [hx])) (fun x hx => ?_)
    unfold stepN at hx
    split at hx
    · exact h2 x hx
    · rcases List.mem_append.1 hx with hx | hx
      · exact h2 x hx
      · rw [List.mem_singleton.1 hx]; exact ⟨hj, hp⟩
theorem foldN_mem (ns : List N3) (k : Nat) : ∀ (js acc : List Nat) (x : Nat), x ∈ js.foldl (stepN ns k) acc ↔ x ∈ acc ∨ (x ∈ js ∧ (nd ns x).p = k)
  | [], acc, x => by simp
  | j :: js, acc, x => by
    rw [List.foldl_cons, foldN_mem ns k js]
    unfold stepN
    split
    · rename_i h
      constructor
      · rintro (h1 | ⟨h1, h2⟩)
        · exact .inl h1
        · exact .inr ⟨by simp [h1], h2⟩
      · rintro (h1 | ⟨h1, h2⟩)
        · exact .inl h1
        · rcases List.mem_cons.1 h1 with rfl | h1
          · rcases h with h | h
            · exact absurd h2 h
            · exact .inl h
          · exact .inr ⟨h1, h2⟩
    · rename_i h
      have hp : (nd ns j).p = k := Classical.byContradiction fun g => h (.inl g)
      rw [List.mem_append, List.mem_singleton]
      constructor
      · rintro ((h1 | rfl) | ⟨h1, h2⟩)
        · exact .inl h1
        · exact .inr ⟨by simp, hp⟩
        · exact .inr ⟨by simp [h1], h2⟩
      · rintro (h1 | ⟨h1, h2⟩)
        · exact .inl (.inl h1)
        · rcases List.mem_cons.1 h1 with rfl | h1
          · exact .inl (.inr rfl)
          · exact .inr ⟨h1, h2⟩
theorem foldN_nodup (ns : List N3) (k : Nat) : ∀ (js acc : List Nat), acc.Nodup → (js.foldl (stepN ns k) acc).Nodup
  | [], acc, h => h
  | j :: js, acc, h => by
    rw [List.foldl_cons]
    refine foldN_nodup ns k js _ ?_
    unfold stepN
    split
    · exact h
    · rename_i hn
      rw [List.nodup_append]
      refine ⟨h, by simp, fun x hx y hy => ?_⟩
      rw [List.mem_singleton.1 hy]
      intro e; subst e
      exact hn (.inr hx)
def chunks (m c : Nat) (t : List Bool) : List (List Bool) := (List.range c).map fun q => (t.drop (q * m)).take m
theorem chunks_flat (m : Nat) : ∀ (L : List (List Bool)), (∀ b ∈ L, b.length = m) → chunks m L.length L.flatten = L
  | [], _ => rfl
  | b :: L, h => by
    have ih := chunks_flat m L fun x hx => h x (by simp [hx])
    have hb := h b (by simp)
    unfold chunks at ih ⊢
    rw [List.length_cons, List.range_succ_eq_map, List.map_cons, List.map_map, List.flatten_cons]
    congr 1
    · rw [Nat.zero_mul, List.drop_zero, ← hb, List.take_left']; rfl
    · conv => rhs; rw [← ih]
      refine List.map_congr_left fun q _ => ?_
      show ((b ++ L.flatten).drop ((q + 1) * m)).take m = _
      rw [show (q + 1) * m = b.length + q * m by rw [hb, Nat.add_mul]; omega, List.drop_append]
      rw [List.drop_of_length_le (by omega), List.nil_append]
      congr 2; omega
def lvC (n k : Nat) (t : List Bool) : Nat := ((chunks (2 ^ (n - k)) (2 ^ k) t).foldl (stepB (2 ^ (n - k - 1))) []).length
/-- the size of a diagram, out of its table -/
def sizeT (n : Nat) (t : List Bool) : Nat := ((List.range n).map fun k => lvC n k t).sum
theorem lvl_len (n : Nat) (ns : List N3) (i : Nat) : ∀ k, (lvl n ns i k).length = 2 ^ k
  | 0 => rfl
  | k + 1 => by
    have : ∀ l : List Nat, (l.flatMap fun j => if (nd ns j).p = k then [(nd ns j).l, (nd ns j).h] else [j, j]).length = 2 * l.length := fun l => by
      induction l with
      | nil => rfl
      | cons x l ih => rw [List.flatMap_cons, List.length_append, ih, List.length_cons]; split <;> simp <;> omega
    rw [lvl, this, lvl_len n ns i k, Nat.pow_succ, Nat.mul_comm]
theorem lvC_eq {n : Nat} {ns : List N3} (w : WF n ns) {i k : Nat} (hi : i < ns.length) (hk : k < n) : lvC n k (tab n ns i) = ((lvl n ns i k).foldl (stepN ns k) []).length := by
  have ht := tab_lvl w hi k (by omega)
  have hch := chunks_flat (2 ^ (n - k)) ((lvl n ns i k).map (blk n ns k)) (fun b hb => by
    obtain ⟨j, _, rfl⟩ := List.mem_map.1 hb; exact blk_len n ns k j)
  rw [List.length_map, lvl_len] at hch
  have hf : (lvl n ns i k).flatMap (blk n ns k) = ((lvl n ns i k).map (blk n ns k)).flatten := rfl
  unfold lvC
  rw [ht, hf, hch]
  have := fold_BN w hk (lvl n ns i k) [] (fun j hj => by obtain ⟨h1, h2, _⟩ := lvl_ok w hi k (by omega) j hj; exact ⟨h1, h2⟩) (fun j hj => by cases hj)
  rw [List.map_nil] at this
  rw [this, List.length_map]
def allN (n : Nat) (ns : List N3) (i : Nat) : Nat → List Nat
  | 0 => []
  | m + 1 => allN n ns i m ++ (lvl n ns i m).foldl (stepN ns m) []
theorem allN_mem {n : Nat} {ns : List N3} (w : WF n ns) {i : Nat} (hi : i < ns.length) : ∀ m, m ≤ n → ∀ j, j ∈ allN n ns i m ↔ (Rch ns i j ∧ 2 ≤ j ∧ (nd ns j).p < m)
  | 0, _, j => by simp [allN]
  | m + 1, hm, j => by
    rw [allN, List.mem_append, allN_mem w hi m (by omega), foldN_mem, lvl_iff w hi (by omega)]
    constructor
    · rintro (⟨h1, h2, h3⟩ | h | ⟨h1, h2, h3⟩)
      · exact ⟨h1, h2, by omega⟩
      · cases h
      · exact ⟨h1, h2, by omega⟩
    · rintro ⟨h1, h2, h3⟩
      rcases Nat.lt_or_ge (nd ns j).p m with h | h
      · exact .inl ⟨h1, h2, h⟩
      · exact .inr (.inr ⟨h1, h2, by omega⟩)
theorem allN_nodup {n : Nat} {ns : List N3} (w : WF n ns) {i : Nat} (hi : i < ns.length) : ∀ m, m ≤ n → (allN n ns i m).Nodup
  | 0, _ => List.nodup_nil
  | m + 1, hm => by
    rw [allN, List.nodup_append]
    refine ⟨allN_nodup w hi m (by omega), foldN_nodup ns m _ _ List.nodup_nil, fun x hx y hy e => ?_⟩
    subst e
    have h1 := ((allN_mem w hi m (by omega) x).1 hx).2.2
    rcases (foldN_mem ns m _ _ x).1 hy with h | ⟨_, h⟩
    · cases h
    · omega
theorem allN_len {n : Nat} {ns : List N3} (w : WF n ns) {i : Nat} (hi : i < ns.length) : ∀ m, m ≤ n → (allN n ns i m).length = ((List.range m).map fun k => lvC n k (tab n ns i)).sum
  | 0, _ => rfl
  | m + 1, hm => by
    rw [allN, List.length_append, allN_len w hi m (by omega), List.range_succ, List.map_append, List.sum_append, ← lvC_eq w hi (by omega)]
    simp
theorem nodup_sub {α : Type} : ∀ (l m : List α), l.Nodup → (∀ x ∈ l, x ∈ m) → l.length ≤ m.length
  | [], _, _, _ => Nat.zero_le _
  | x :: l, m, hn, hs => by
    obtain ⟨h1, h2⟩ := List.nodup_cons.1 hn
    obtain ⟨s, t, rfl⟩ := List.append_of_mem (hs x (by simp))
    have := nodup_sub l (s ++ t) h2 fun y hy => by
      have h3 := hs y (by simp [hy])
      rcases List.mem_append.1 h3 with h4 | h4
      · exact List.mem_append_left _ h4
      · rcases List.mem_cons.1 h4 with h5 | h5
        · subst h5; exact absurd hy h1
        · exact List.mem_append_right _ h5
    simp only [List.length_append, List.length_cons] at this ⊢
    omega
/-- the size: how many nodes are reached -/
theorem size_eq {n : Nat} {ns : List N3} (w : WF n ns) {i : Nat} (hi : i < ns.length) {l : List Int} (hn : l.Nodup) (hm : ∀ x : Int, x ∈ l ↔ ∃ j : Nat, x = (j : Int) ∧ 2 ≤ j ∧ Rch ns i j) : l.length = sizeT n (tab n ns i) := by
  have h1 := allN_nodup w hi n (Nat.le_refl n)
  have h2 := allN_len w hi n (Nat.le_refl n)
  have h3 : ∀ j, j ∈ allN n ns i n ↔ (2 ≤ j ∧ Rch ns i j) := fun j => by
    rw [allN_mem w hi n (Nat.le_refl n)]
    constructor
    · rintro ⟨g1, g2, _⟩; exact ⟨g2, g1⟩
    · rintro ⟨g1, g2⟩; exact ⟨g2, g1, w.pl j g1 (g2.lt w hi)⟩
  have h4 : ((allN n ns i n).map fun j : Nat => (j : Int)).Nodup := by
    rw [List.Nodup, List.pairwise_map]
    exact h1.imp fun h e => h (by omega)
  unfold sizeT
  rw [← h2]
  have a1 := nodup_sub l ((allN n ns i n).map fun j : Nat => (j : Int)) hn fun x hx => by
    obtain ⟨j, rfl, g⟩ := (hm x).1 hx
    exact List.mem_map.2 ⟨j, (h3 j).2 g, rfl⟩
  have a2 := nodup_sub ((allN n ns i n).map fun j : Nat => (j : Int)) l h4 fun x hx => by
    obtain ⟨j, hj, rfl⟩ := List.mem_map.1 hx
    exact (hm _).2 ⟨j, rfl, (h3 j).1 hj⟩
  rw [List.length_map] at a1 a2
  omega
end Go.Proofs.Ythnhijdfcmcnhaa
