/- ObddNets: part 3. -/
import Derived.Test.YtbhgahjeocnfcaaNtB
import Derived.Maps.OwnSet
import Derived.Maps.Ext
import Derived.Maps.RangeWalk
import Derived.WideKeyEntry
import Derived.DeepKeys4
namespace Go.Cx
open Go Go.RowKit
set_option linter.unusedVariables false
set_option linter.unusedSimpArgs false
section
variable {P : Program} {ops : Array Oper} {md : Region.Mode} {Q Q' : Exit → Act → World → Prop}
theorem wp_Q {o : Oper} {a : Act} {w : World} {K : Act → World → Prop} (hp : ∀ c a w, ¬ Q' (.panic c) a w) (hl : ∀ a w, ¬ Q' .outgrown a w) (hh : o.wp P a w K Q') : o.wp P a w K Q := by
  unfold Oper.wp at *
  generalize (execOp a.eval o).run P w = r at *
  cases r with
  | ok n w' =>
    cases n <;> simp only [Oper.upon] at hh ⊢ <;>
      first
        | exact hh
        | exact Calls.mono hh (fun e w'' he => by cases e <;> first | exact he | exact absurd he (hp _ _ _) | (obtain ⟨a, w, h⟩ := he; exact absurd h (hl _ _)))
  | halt x w' => cases x <;> simp only [Oper.upon] at hh ⊢ <;> first | exact hh | exact absurd hh (hp _ _ _)
theorem lop_Q {o : Oper} {a : Act} {w : World} {K : Act → World → Prop} (hp : ∀ c a w, ¬ Q' (.panic c) a w) (hl : ∀ a w, ¬ Q' .outgrown a w) (hh : lop P ops Q' o K a w) : lop P ops Q o K a w := by
  unfold lop at *
  split
  · rename_i hw; rw [if_pos hw] at hh; exact wp_Q hp hl hh
  · rename_i hw; rw [if_neg hw] at hh; exact hh
def LE (P : Program) (ops : Array Oper) (Q : Exit → Act → World → Prop) (D : World → Prop) : List (Nat × Oper) → Act → (World → Prop) → Prop
  | [], a, C => ∀ w, C w → Q .normal a w
  | (0, o) :: l, a, C => ∃ v, Yields P ops o v a ∧ ((∃ w, C w) → LE P ops Q D l (a.put o.dst v) C)
  | (1, o) :: l, a, C => ∃ v, YieldsIn P ops C o v a ∧ ((∃ w, C w) → LE P ops Q D l (a.put o.dst v) C)
  | (2, o) :: l, a, C => ∀ w, C w → lop P ops Q o (fun a' w' => ∃ C' : World → Prop, C' w' ∧ LE P ops Q D l a' C') a w
  | (3, o) :: l, a, C => ∀ w, C w → lop P ops Q o (fun a' w' => ∃ C' : World → Prop, (∀ w, C' w → D w) ∧ C' w' ∧ LE P ops Q D l a' C') a w
  | (_ + 4, o) :: l, a, C => isLd o.op = true ∧ (∀ w, C w → D w) ∧ ∃ v, YieldsIn P ops D o v a ∧ ((∃ w, C w) → LE P ops Q D l (a.put o.dst v) C)
def hasN (l : List Nat) (j : Nat) : Bool := l.any (Nat.beq j)
def lexE (md : Region.Mode) (ops : Array Oper) (lo gr : List Nat) : List (Nat × Nat) → Array Bool → Bool
  | [], listed => (Region.ready md ops listed).all (hasN lo)
  | (0, k) :: ks, listed => !hasN lo k && (Region.ready md ops listed).contains k && Region.free md ops listed k && lexE md ops lo gr ks (listed.setIfInBounds k true)
  | (1, k) :: ks, listed => !hasN lo k && (Region.ready md ops listed).contains k && Region.free md ops listed k && (lo.all fun j => listed.getD j true || waitsB md ops k ops.size j) && lexE md ops lo gr ks (listed.setIfInBounds k true)
  | (2, k) :: ks, listed => hasN lo k && !hasN gr k && decide (Region.ready md ops listed = [k]) && lexE md ops lo gr ks (listed.setIfInBounds k true)
  | (3, k) :: ks, listed => hasN lo k && decide (Region.ready md ops listed = [k]) && lexE md ops lo gr ks (listed.setIfInBounds k true)
  | (_ + 4, k) :: ks, listed => !hasN lo k && (Region.ready md ops listed).contains k && Region.free md ops listed k && (lo.all fun j => listed.getD j true || hasN gr j || waitsB md ops k ops.size j) && lexE md ops lo gr ks (listed.setIfInBounds k true)
def setAll : List (Nat × Nat) → Array Bool → Array Bool
  | [], l => l
  | (_, k) :: ks, l => setAll ks (l.setIfInBounds k true)
theorem hasN_mem {l : List Nat} {j : Nat} : hasN l j = true ↔ j ∈ l := by
  unfold hasN
  rw [List.any_eq_true]
  constructor
  · rintro ⟨x, hx, h⟩; rw [Nat.eq_of_beq_eq_true h]; exact hx
  · intro h; exact ⟨j, h, by simp⟩
theorem GD.single {D C : World → Prop} {lo gr : Nat → Bool} {m : Nat} {listed : Array Bool} {a : Act} (hne : ∃ w, C w) (hall : ∀ j ∈ Region.ready md ops listed, lo j = true) (h : ∀ w, C w → GD P md ops Q D lo gr (fun x => x = w) m listed a) : GD P md ops Q D lo gr C m listed a := by
  cases m with
  | zero =>
    obtain ⟨w, hw⟩ := hne
    exact ⟨(h w hw).1, fun w hw => (h w hw).2 w rfl⟩
  | succ m =>
    refine ⟨fun h0 w hw => (h w hw).1 h0 w rfl, fun j hj => .inl ⟨hall j hj, fun w hw => ?_⟩⟩
    rcases (h w hw).2 j hj with ⟨_, h1⟩ | ⟨h1, _⟩
    · exact h1 w rfl
    · rw [hall j hj] at h1; cases h1
theorem LE.gd {D : World → Prop} {lo gr : List Nat} (hs : Region.noSelect ops = true) (hQ : ∀ c a w, ¬ Q (.panic c) a w) (hQ' : ∀ c a w, ¬ Q' (.panic c) a w) (hO : ∀ a w, ¬ Q' .outgrown a w) (m : Nat) : ∀ (ps : List (Nat × Nat)) (l : List (Nat × Oper)) (listed : Array Bool) (a : Act) (C : World → Prop), Along ops ps l →
    Closed md ops listed → lexE md ops lo gr ps listed = true → (∃ w, C w) → (∀ a w, Q' .normal a w → Closed md ops (setAll ps listed) → GD P md ops Q D (hasN lo) (hasN gr) (fun x => x = w) m (setAll ps listed) a) → LE P ops Q' D l a C → GD P md ops Q D (hasN lo) (hasN gr) C (l.length + m) listed a
  | [], [], listed, a, C, _, inv, hB, hne, hend, h => by
    simp only [lexE, List.all_eq_true] at hB
    have := GD.single (P := P) (Q := Q) (D := D) (gr := hasN gr) hne hB (fun w hw => hend a w (h w hw) inv)
    simpa using this
  | [], _ :: _, _, _, _, hlen, _, _, _, _, _ => hlen.elim
  | _ :: _, [], _, _, _, hlen, _, _, _, _, _ => hlen.elim
  | (c, k) :: ks, (c', o) :: l, listed, a, C, ⟨h0, hcc, hl⟩, inv, hB, hne, hend, h => by
    subst hcc
    have hlen : ((c, o) :: l).length + m = (l.length + m) + 1 := by simp only [List.length_cons]; omega
    rw [hlen]
    match c, hB, h with
    | 0, hB, h =>
      simp only [lexE, Bool.and_eq_true, Bool.not_eq_true'] at hB
      obtain ⟨⟨⟨hlk, hr⟩, hf⟩, hB'⟩ := hB
      have hr' : k ∈ Region.ready md ops listed := by simpa using hr
      obtain ⟨v, hy, hk⟩ := h
      have hyi : YieldsIn P ops C o v a := by
        rcases hy with ⟨h1, h2⟩ | h1
        · exact .inl ⟨h1, fun w _ => by unfold Oper.quietAt; rw [h2 w]; exact ⟨rfl, rfl⟩⟩
        · exact .inr h1
      exact GD.first h0 (Region.noSelect_spec hs) hQ hlk (l.length + m) C listed a inv (Region.free_spec h0 hf) hr' hyi (.inl hy) (LE.gd hs hQ hQ' hO m ks l _ _ C hl (inv.set hr') hB' hne hend (hk hne))
    | 1, hB, h =>
      simp only [lexE, Bool.and_eq_true, Bool.not_eq_true'] at hB
      obtain ⟨⟨⟨⟨hlk, hr⟩, hf⟩, hw⟩, hB'⟩ := hB
      have hr' : k ∈ Region.ready md ops listed := by simpa using hr
      obtain ⟨v, hy, hk⟩ := h
      refine GD.first h0 (Region.noSelect_spec hs) hQ hlk (l.length + m) C listed a inv (Region.free_spec h0 hf) hr' hy (.inr (.inl fun j hj hun => ⟨ops.size, ?_⟩)) (LE.gd hs hQ hQ' hO m ks l _ _ C hl (inv.set hr') hB' hne hend (hk hne))
      have := List.all_eq_true.1 hw j (hasN_mem.1 hj)
      simp only [Bool.or_eq_true] at this
      rcases this with h' | h'
      · rw [hun] at h'; cases h'
      · exact h'
    | 2, hB, h =>
      simp only [lexE, Bool.and_eq_true, Bool.not_eq_true', decide_eq_true_eq] at hB
      obtain ⟨⟨⟨hlk, hgk⟩, hr⟩, hB'⟩ := hB
      have hr' : k ∈ Region.ready md ops listed := by rw [hr]; simp
      exact loud_step hlk hr h0 (fun w hC => lop_Q hQ' hO (lop_mono (fun a' w' ⟨C', hC', hk⟩ => ⟨C', fun hg => (by rw [hgk] at hg; cases hg), hC', LE.gd hs hQ hQ' hO m ks l _ _ C' hl (inv.set hr') hB' ⟨w', hC'⟩ hend hk⟩) (h w hC)))
    | 3, hB, h =>
      simp only [lexE, Bool.and_eq_true, Bool.not_eq_true', decide_eq_true_eq] at hB
      obtain ⟨⟨hlk, hr⟩, hB'⟩ := hB
      have hr' : k ∈ Region.ready md ops listed := by rw [hr]; simp
      exact loud_step hlk hr h0 (fun w hC => lop_Q hQ' hO (lop_mono (fun a' w' ⟨C', hD, hC', hk⟩ => ⟨C', fun _ => hD, hC', LE.gd hs hQ hQ' hO m ks l _ _ C' hl (inv.set hr') hB' ⟨w', hC'⟩ hend hk⟩) (h w hC)))
    | c + 4, hB, h =>
      simp only [lexE, Bool.and_eq_true, Bool.not_eq_true'] at hB
      obtain ⟨⟨⟨⟨hlk, hr⟩, hf⟩, hw⟩, hB'⟩ := hB
      have hr' : k ∈ Region.ready md ops listed := by simpa using hr
      obtain ⟨hld, hsub, v, hy, hk⟩ := h
      have hyi : YieldsIn P ops C o v a := by
        rcases hy with ⟨h1, h2⟩ | h1
        · exact .inl ⟨h1, fun w hw => by
            have h3 := yieldsIn_ld (C := D) hld (.inl ⟨h1, h2⟩)
            rcases h3 with ⟨_, h4⟩ | h4
            · unfold Oper.quietAt; rw [h4 w (hsub w hw)]; exact ⟨rfl, rfl⟩
            · rw [h1] at h4; simp at h4⟩
        · exact .inr h1
      refine GD.first h0 (Region.noSelect_spec hs) hQ hlk (l.length + m) C listed a inv (Region.free_spec h0 hf) hr' hyi (.inr (.inr ⟨yieldsIn_ld hld hy, fun j hj hun => ?_⟩)) (LE.gd hs hQ hQ' hO m ks l _ _ C hl (inv.set hr') hB' hne hend (hk hne))
      have := List.all_eq_true.1 hw j (hasN_mem.1 hj)
      simp only [Bool.or_eq_true] at this
      rcases this with (h' | h') | h'
      · rw [hun] at h'; cases h'
      · exact .inl h'
      · exact .inr ⟨ops.size, h'⟩
end
section
variable {P : Program} {n : Nat} {w0 : World} {R : Heap} {K : Exit → Fr → List Heap → Prop} {f : Fr} {L L0 : List Heap} {l0 : List Oper} {rest : List (Nat × Oper)} {o : Oper}
def Br (P : Program) (n : Nat) (w0 : World) (R : Heap) (L0 : List Heap) (lo gr : List Nat) (l0 : List Oper) (K : Exit → Fr → List Heap → Prop) (m : Nat) (listed : Array Bool) (f : Fr) (L : List Heap) : Prop :=
  ∀ a w, Rep n f a → H w0 R L w → Closed .any l0.toArray listed → GD P .any l0.toArray (QW n w0 R (drawK K)) (H w0 R L0) (hasN lo) (hasN gr) (fun x => x = w) m listed a
def brK (P : Program) (n : Nat) (w0 : World) (R : Heap) (L0 : List Heap) (lo gr : List Nat) (l0 : List Oper) (K : Exit → Fr → List Heap → Prop) (m : Nat) (listed : Array Bool) : Exit → Fr → List Heap → Prop
  | .normal, f, L => Br P n w0 R L0 lo gr l0 K m listed f L
  | _, _, _ => False
def JE (P : Program) (n : Nat) (w0 : World) (R : Heap) (L0 : List Heap) (l0 : List Oper) (K : Exit → Fr → List Heap → Prop) (l : List (Nat × Oper)) (f : Fr) (L : List Heap) : Prop :=
  ∀ a, Rep n f a → LE P l0.toArray (QW n w0 R K) (H w0 R L0) l a (H w0 R L)
theorem JC.drawE {id : Nat} {l : List Oper} (L0 : List Heap) (lo gr : List Nat) (ps : List (Nat × Nat)) (m : Nat) (listed : Array Bool) (hm : P.follows .mixedOrders = true)
    (hB : (Region.noSelect l.toArray && Nat.beq (ps.length + m) l.length && ps.all (fun p => Nat.blt p.2 l.length) && lexE .any l.toArray lo gr ps (Array.replicate l.length false)) = true) (hl : setAll ps (Array.replicate l.length false) = listed)
    (h : JE P n w0 R L0 l (brK P n w0 R L0 lo gr l K m listed) (picks l ps) f L) : JC P n w0 R (.region id l.toArray true) K f L := fun a w ha hw => by
  simp only [Bool.and_eq_true] at hB
  obtain ⟨⟨⟨hs, hlen⟩, hall⟩, hlex⟩ := hB
  have hlen' := Nat.eq_of_beq_eq_true hlen
  obtain ⟨hal, hpl⟩ := picks_along l ps hall
  refine wp_mono (Q := QW n w0 R (drawK K)) (wp_region_any hm ?_) (fun e a w q => q.mono fun e f L hk => by cases e <;> first | exact hk | exact hk.elim)
  have inv0 : Closed .any l.toArray (Array.replicate l.length false) := ⟨by simp, fun j oj _ hl => (by rw [show (Array.replicate l.length false).getD j false = false from by rcases Nat.lt_or_ge j l.length with h | h <;> simp_all] at hl; cases hl)⟩
  have hdr := hw.drew (w.drawn + 1)
  have := (LE.gd (md := .any) (Q := QW n w0 R (drawK K)) hs (fun c a w q => by obtain ⟨_, _, _, _, hk⟩ := q; exact hk) (fun c a w q => by obtain ⟨_, _, _, _, hk⟩ := q; exact hk) (fun a w q => q) m ps (picks l ps) _ a _ hal inv0 hlex ⟨_, hdr⟩
    (fun a w q hc => by rw [hl] at hc ⊢; obtain ⟨f', L', ha', hw', hk⟩ := q; exact hk a w ha' hw' hc) (h a ha)).any _ hdr
  rw [hpl, hlen'] at this
  simpa using this
theorem Br.done {lo gr : List Nat} {m : Nat} {listed : Array Bool} (hr : (Region.ready .any l0.toArray listed).isEmpty = true) (h : K .normal f L) : Br P n w0 R L0 lo gr l0 K m listed f L := fun a w ha hw _ => by
  have hr' : Region.ready .any l0.toArray listed = [] := by simpa using hr
  have hq : ∀ w', w' = w → QW n w0 R (drawK K) .normal a w' := fun w' e => by subst e; exact ⟨f, L, ha, hw, h⟩
  cases m with
  | zero => exact ⟨hr', hq⟩
  | succ m => exact ⟨fun _ => hq, fun j hj => by rw [hr'] at hj; cases hj⟩
theorem Br.step {lo gr : List Nat} {m m' k c : Nat} {listed listed' : Array Bool} {o : Oper} (ps : List (Nat × Nat)) (h0 : l0[k]? = some o) (hk : k ∈ Region.ready .any l0.toArray listed) (hc : Closed .any l0.toArray listed)
    (hB : (Region.noSelect l0.toArray && hasN lo k && (hasN gr k == Nat.beq c 1) && Nat.ble c 1 && Nat.beq (ps.length + 1 + m') m && ps.all (fun p => Nat.blt p.2 l0.length) && lexE .any l0.toArray lo gr ps (listed.setIfInBounds k true)) = true) (hl : setAll ps (listed.setIfInBounds k true) = listed')
    (h : JE P n w0 R L0 l0 (brK P n w0 R L0 lo gr l0 K m' listed') ((c + 2, o) :: picks l0 ps) f L) {a : Act} {w : World} (ha : Rep n f a) (hw : H w0 R L w) :
    hasN lo k = true ∧ ∀ w', w' = w → wpOp P l0.toArray (QW n w0 R (drawK K)) k (fun a' w' => ∃ C' : World → Prop, (hasN gr k = true → ∀ w, C' w → H w0 R L0 w) ∧ C' w' ∧ GD P .any l0.toArray (QW n w0 R (drawK K)) (H w0 R L0) (hasN lo) (hasN gr) C' (m - 1) (listed.setIfInBounds k true) a') a w' := by
  simp only [Bool.and_eq_true] at hB
  obtain ⟨⟨⟨⟨⟨⟨hs, hlk⟩, hg⟩, hc1⟩, hlen⟩, hall⟩, hlex⟩ := hB
  have hlen' := Nat.eq_of_beq_eq_true hlen
  obtain ⟨hal, hpl⟩ := picks_along l0 ps hall
  refine ⟨hlk, fun w' e => ?_⟩
  subst e
  have hE := h a ha
  have h0' : l0.toArray[k]? = some o := by simpa using h0
  have fin : ∀ (a' : Act) (w' : World) (C' : World → Prop), C' w' → LE P l0.toArray (QW n w0 R (brK P n w0 R L0 lo gr l0 K m' listed')) (H w0 R L0) (picks l0 ps) a' C' → GD P .any l0.toArray (QW n w0 R (drawK K)) (H w0 R L0) (hasN lo) (hasN gr) C' (m - 1) (listed.setIfInBounds k true) a' := fun a' w' C' hC' hL => by
    have := LE.gd (md := .any) (Q := QW n w0 R (drawK K)) hs (fun c a w q => by obtain ⟨_, _, _, _, hk⟩ := q; exact hk) (fun c a w q => by obtain ⟨_, _, _, _, hk⟩ := q; exact hk) (fun a w q => q) m' ps (picks l0 ps) _ a' C' hal (hc.set hk) hlex ⟨_, hC'⟩
      (fun a w q hc => by rw [hl] at hc ⊢; obtain ⟨f', L', ha', hw', hk⟩ := q; exact hk a w ha' hw' hc) hL
    rw [hpl] at this
    have e1 : m - 1 = ps.length + m' := by omega
    rw [e1]; exact this
  have key : lop P l0.toArray (QW n w0 R (drawK K)) o (fun a' w' => ∃ C' : World → Prop, (hasN gr k = true → ∀ w, C' w → H w0 R L0 w) ∧ C' w' ∧ GD P .any l0.toArray (QW n w0 R (drawK K)) (H w0 R L0) (hasN lo) (hasN gr) C' (m - 1) (listed.setIfInBounds k true) a') a w' := by
    match c, hE, hg, hc1 with
    | 0, hE, hg, _ =>
      refine lop_Q (fun c a w q => by obtain ⟨_, _, _, _, hk⟩ := q; exact hk) (fun a w q => q) (lop_mono (fun a' w' ⟨C', hC', hk⟩ => ⟨C', fun hgr => ?_, hC', fin a' w' C' hC' hk⟩) (hE w' hw))
      rw [hgr] at hg; simp at hg
    | 1, hE, _, _ => exact lop_Q (fun c a w q => by obtain ⟨_, _, _, _, hk⟩ := q; exact hk) (fun a w q => q) (lop_mono (fun a' w' ⟨C', hD, hC', hk⟩ => ⟨C', fun _ => hD, hC', fin a' w' C' hC' hk⟩) (hE w' hw))
    | c + 2, _, _, hc1 => simp at hc1
  unfold wpOp
  simp only [h0']
  unfold lop at key
  split
  · rename_i hg; rw [if_pos hg] at key; exact .inl key
  · rename_i hg; rw [if_neg hg] at key; exact key
theorem Br.two {lo gr : List Nat} {m m1 m2 c1 c2 : Nat} {listed listed1 listed2 : Array Bool} {o1 o2 : Oper} (k1 k2 : Nat) (ps1 ps2 : List (Nat × Nat)) (hr : decide (Region.ready .any l0.toArray listed = [k1, k2]) = true) (e1 : l0[k1]? = some o1) (e2 : l0[k2]? = some o2)
    (hB1 : (Region.noSelect l0.toArray && hasN lo k1 && (hasN gr k1 == Nat.beq c1 1) && Nat.ble c1 1 && Nat.beq (ps1.length + 1 + m1) m && ps1.all (fun p => Nat.blt p.2 l0.length) && lexE .any l0.toArray lo gr ps1 (listed.setIfInBounds k1 true)) = true) (hl1 : setAll ps1 (listed.setIfInBounds k1 true) = listed1)
    (hB2 : (Region.noSelect l0.toArray && hasN lo k2 && (hasN gr k2 == Nat.beq c2 1) && Nat.ble c2 1 && Nat.beq (ps2.length + 1 + m2) m && ps2.all (fun p => Nat.blt p.2 l0.length) && lexE .any l0.toArray lo gr ps2 (listed.setIfInBounds k2 true)) = true) (hl2 : setAll ps2 (listed.setIfInBounds k2 true) = listed2)
    (h1 : JE P n w0 R L0 l0 (brK P n w0 R L0 lo gr l0 K m1 listed1) ((c1 + 2, o1) :: picks l0 ps1) f L) (h2 : JE P n w0 R L0 l0 (brK P n w0 R L0 lo gr l0 K m2 listed2) ((c2 + 2, o2) :: picks l0 ps2) f L) : Br P n w0 R L0 lo gr l0 K m listed f L := fun a w ha hw hc => by
  have hr' := of_decide_eq_true hr
  have hm : m = (m - 1) + 1 := by
    simp only [Bool.and_eq_true] at hB1
    have := Nat.eq_of_beq_eq_true hB1.1.1.2
    omega
  rw [hm]
  refine ⟨fun h => (by rw [hr'] at h; cases h), fun j hj => .inl ?_⟩
  have hj' := hj
  rw [hr'] at hj'
  rcases List.mem_cons.1 hj' with rfl | hj'
  · exact Br.step ps1 e1 hj hc hB1 hl1 h1 ha hw
  · rw [List.mem_singleton] at hj'
    subst hj'
    exact Br.step ps2 e2 hj hc hB2 hl2 h2 ha hw
def eK0 (J0 : Fr → Prop) (L : List Heap) : Exit → Fr → List Heap → Prop
  | .normal, f, L' => L' = L ∧ J0 f
  | _, _, _ => False
def eK2 (J0 : Fr → List Heap → Prop) : Exit → Fr → List Heap → Prop
  | .normal, f, L' => J0 f L'
  | _, _, _ => False
def eK3 (w0 : World) (R : Heap) (L0 : List Heap) (J0 : Fr → List Heap → Prop) : Exit → Fr → List Heap → Prop
  | .normal, f, L' => (∀ w, H w0 R L' w → H w0 R L0 w) ∧ J0 f L'
  | _, _, _ => False
theorem JE.s0 (h : J P n w0 R l0 (eK0 (fun f' => JE P n w0 R L0 l0 K rest f' L) L) [(0, o)] f L) : JE P n w0 R L0 l0 K ((0, o) :: rest) f L := fun a ha => by
  obtain ⟨v, hy, hk⟩ := h a ha
  refine ⟨v, hy, fun ⟨w, hw⟩ => ?_⟩
  obtain ⟨f', L', ha', _, rfl, hj⟩ := hk w hw
  exact hj _ ha'
theorem JE.s4 (hld : isLd o.op = true) (hsub : ∀ w, H w0 R L w → H w0 R L0 w) (h : J P n w0 R l0 (eK0 (fun f' => JE P n w0 R L0 l0 K rest f' L) L0) [(1, o)] f L0) : JE P n w0 R L0 l0 K ((4, o) :: rest) f L := fun a ha => by
  obtain ⟨v, hy, hk⟩ := h a ha
  refine ⟨hld, hsub, v, hy, fun ⟨w, hw⟩ => ?_⟩
  obtain ⟨f', L', ha', _, _, hj⟩ := hk w (hsub w hw)
  exact hj _ ha'
theorem lop_no {o : Oper} {a : Act} {w : World} {Kk : Act → World → Prop} {Ka Kb : Exit → Fr → List Heap → Prop} (hk : ∀ c f L, ¬ Ka (.panic c) f L) (hh : lop P l0.toArray (QW n w0 R Ka) o Kk a w) : lop P l0.toArray (QW n w0 R Kb) o Kk a w :=
  lop_Q (fun c a w q => by obtain ⟨_, _, _, _, h⟩ := q; exact hk _ _ _ h) (fun a w q => q) hh
theorem JE.s2 (h : J P n w0 R l0 (eK2 (fun f' L' => JE P n w0 R L0 l0 K rest f' L')) [(2, o)] f L) : JE P n w0 R L0 l0 K ((2, o) :: rest) f L := fun a ha w hw => by
  refine lop_no (fun c f L h => h) (lop_mono ?_ (h a ha w hw))
  rintro a' w' ⟨C', _, hC', hk⟩
  obtain ⟨f', L', ha', hw', hj⟩ := hk w' hC'
  exact ⟨_, hw', hj _ ha'⟩
theorem JE.s3 (h : J P n w0 R l0 (eK3 w0 R L0 (fun f' L' => JE P n w0 R L0 l0 K rest f' L')) [(2, o)] f L) : JE P n w0 R L0 l0 K ((3, o) :: rest) f L := fun a ha w hw => by
  refine lop_no (fun c f L h => h) (lop_mono ?_ (h a ha w hw))
  rintro a' w' ⟨C', _, hC', hk⟩
  obtain ⟨f', L', ha', hw', hs, hj⟩ := hk w' hC'
  exact ⟨_, hs, hw', hj _ ha'⟩
theorem JE.is {l : List (Nat × Oper)} (h : JE P n w0 R L0 l0 K l f L) : JE P n w0 R L0 l0 K l f L := h
theorem JE.nil (h : K .normal f L) : JE P n w0 R L0 l0 K [] f L := fun _ ha _ hw => ⟨f, L, ha, hw, h⟩
theorem eK0.nn {J0 : Fr → Prop} (h : J0 f) : eK0 J0 L .normal f L := ⟨rfl, h⟩
theorem eK2.nn {J0 : Fr → List Heap → Prop} (h : J0 f L) : eK2 J0 .normal f L := h
theorem eK3.nn {J0 : Fr → List Heap → Prop} (hs : ∀ w, H w0 R L w → H w0 R L0 w) (h : J0 f L) : eK3 w0 R L0 J0 .normal f L := ⟨hs, h⟩
theorem eK3.is {J0 : Fr → List Heap → Prop} {e : Exit} (h : eK3 w0 R L0 J0 e f L) : eK3 w0 R L0 J0 e f L := h
theorem brK.nn {lo gr : List Nat} {m : Nat} {listed : Array Bool} (h : Br P n w0 R L0 lo gr l0 K m listed f L) : brK P n w0 R L0 lo gr l0 K m listed .normal f L := h
end
end Go.Cx
namespace Go.Cx
open Go Go.RowKit
set_option linter.unusedVariables false
set_option linter.unusedSimpArgs false
section
variable {P : Program} {n : Nat} {w0 : World} {R : Heap} {l0 : List Oper} {K : Exit → Fr → List Heap → Prop} {f : Fr} {L : List Heap} {rest : List (Nat × Oper)} {κ : Nat}
variable {Γ : List (Nat × TI)} {d : Nat} {op : Op} {ty : TypeId} {pos : String} {aft : Array Edge} {g : Option (Nat × Bool)}
variable {α : Type} {enc : α → List Value} {size : Nat} {e : TypeId} {a : Option Addr} {cap : Nat} {ts : List α} {h : Heap}
theorem J.alA {t : TypeId} {ti : TI} {zv : Value} {cl : List Value} (enc : α → List Value) (size m : Nat) (z : α) (hle : ∀ x, (enc x).length = size) (hΓ : Fits P Γ) (k : ∀ b h, OwT enc size t (some ⟨b, 0, none⟩) m (List.replicate m z) h → J P n w0 R l0 K rest (upd f d (.pointer (some ⟨b, 0, none⟩))) (h :: L))
    (hg : wantB n f l0 ⟨some d, .alloc t, ty, pos, aft, g⟩ = true := by exact rfl) (ht : look Γ t = some ti := by exact rfl) (hz : ti.zero = some zv := by exact rfl) (hc : vcells zv = some cl := by exact rfl) (hcl : (List.replicate m z).flatMap enc = cl := by kernel_rfl) : J P n w0 R l0 K ((κ + 2, ⟨some d, .alloc t, ty, pos, aft, g⟩) :: rest) f L :=
  J.alloc hΓ hg ht hz hc (fun b => k b _ ⟨hle, .inr ⟨b, cl, rfl, rfl, by rw [← hcl, flat_len hle, List.length_replicate], by simp, by rw [hcl]; exact List.take_of_length_le (by rw [← hcl, flat_len hle]; exact Nat.le_refl _)⟩⟩)
theorem pel_arr (b s j : Nat) : Value.pointer (some ⟨b, 0 + j * s, none⟩) = pel (some ⟨b, 0, none⟩) s j 0 := by
  unfold pel Addr.add
  simp only [Option.getD_some, Nat.add_zero]
  split
  · rename_i h; rw [h]
  · rfl
theorem J.iP {t e : TypeId} {m : Nat} {i : Int} {ki : IntKind} {bb : Nat} {s1 s2 b1 b2 : Nat} {z1 z2 : Option Value} {de : TypeDesc} {x y : Operand} (hΓ : Fits P Γ) (k : J P n w0 R l0 K rest (upd f d (pel (some ⟨bb, 0, none⟩) s2 i.toNat 0)) L)
    (hg : wantB n f l0 ⟨some d, .indexAddr t x y, ty, pos, aft, g⟩ = true := by exact rfl) (hx : Cx.ev n f x = .pointer (some ⟨bb, 0, none⟩) := by exact rfl) (hy : Cx.ev n f y = .int ki i := by exact rfl)
    (ht : look Γ t = some ⟨.array m e, s1, z1, b1⟩ := by exact rfl) (he : look Γ e = some ⟨de, s2, z2, b2⟩ := by exact rfl) (h0 : 0 ≤ i := by omega) (hi : i < (m : Int) := by omega) : J P n w0 R l0 K ((κ, ⟨some d, .indexAddr t x y, ty, pos, aft, g⟩) :: rest) f L :=
  J.idxA hΓ hg hx hy ht he h0 hi rfl (by rw [pel_arr]; exact k)
theorem J.ap1 {t : TypeId} {x y : Operand} {len m c gx : Nat} {cl : List Value} {fr : Nat × Nat} {e' s1 b1 b2 : Nat} {z1 : Option Value} {z : Value} {zc : List Value} {de : TypeDesc} (us : List α) (hΓ : Fits P Γ)
    (k : ∀ a' cap' h', OwT enc size e a' cap' (ts ++ us) h' → J P n w0 R l0 K rest (upd f d (.slice a' (ts ++ us).length cap')) (h' :: L))
    (hg : wantB n f l0 ⟨some d, .call ⟨.builtin .append, ⟨[x, y]⟩, ⟨[t, t]⟩⟩, ty, pos, aft, g⟩ = true := by exact rfl)
    (hx : Cx.ev n f x = .slice a len cap := by exact rfl) (hy : Cx.ev n f y = .slice (some ⟨gx, 0, none⟩) m c := by exact rfl) (ht : look Γ t = some ⟨.slice e, s1, z1, b1⟩ := by exact rfl) (he : look Γ e = some ⟨de, size, some z, b2⟩ := by exact rfl) (hz : vcells z = some zc := by exact rfl) (hzl : Nat.beq zc.length size = true := by exact rfl)
    (ho : OwT enc size e a cap ts h := by assumption) (hlen : ts.length = len := by first | rfl | assumption | omega) (hus : us.flatMap enc = cl := by exact rfl) (hm : us.length = m := by exact rfl) (h1 : ones cl = true := by exact rfl) (hpos : 0 < m := by omega) (hb : (len + m) * b2 ≤ 140737488355328 := by first | omega | (simp only [List.length_append, List.length_cons, List.length_nil]; omega)) (h63 : len + m ≤ 9223372036854775807 := by first | omega | (simp only [List.length_append, List.length_cons, List.length_nil]; omega)) :
    J P n w0 R l0 K ((2, ⟨some d, .call ⟨.builtin .append, ⟨[x, y]⟩, ⟨[t, t]⟩⟩, ty, pos, aft, g⟩) :: rest) f ([(gx, .cells ⟨cl⟩ e' fr)] :: h :: L) := by
  have hll : (ts ++ us).length = len + m := by rw [List.length_append, hlen, hm]
  rw [hll] at k
  exact J.app1 us hΓ hg hx hy ht he hz hzl ho hlen hus hm h1 hpos hb h63 k
end
section
variable {β : Type} {a b c d e f g h : β} {L : List β}
theorem br1 : (a :: b :: L).Perm (b :: a :: L) := .swap _ _ _
theorem br2 : (a :: b :: c :: L).Perm (c :: a :: b :: L) := (br1.cons _).trans br1
theorem br3 : (a :: b :: c :: d :: L).Perm (d :: a :: b :: c :: L) := (br2.cons _).trans br1
theorem br4 : (a :: b :: c :: d :: e :: L).Perm (e :: a :: b :: c :: d :: L) := (br3.cons _).trans br1
theorem br5 : (a :: b :: c :: d :: e :: f :: L).Perm (f :: a :: b :: c :: d :: e :: L) := (br4.cons _).trans br1
theorem br6 : (a :: b :: c :: d :: e :: f :: g :: L).Perm (g :: a :: b :: c :: d :: e :: f :: L) := (br5.cons _).trans br1
end
def pins : List (Nat × Value) → Fr → Fr
  | [], f => f
  | (i, v) :: l, f => upd (pins l f) i v
def agrees : List (Nat × Value) → Fr → Prop
  | [], _ => True
  | (i, v) :: l, f => f i = v ∧ agrees l f
theorem pins_of : ∀ (l : List (Nat × Value)) (f : Fr), agrees l f → pins l f = f
  | [], _, _ => rfl
  | (i, v) :: l, f, h => by
    show upd (pins l f) i v = f
    rw [pins_of l f h.2]
    funext j
    by_cases hj : j = i
    · subst hj; rw [upd_same, h.1]
    · exact upd_ne f v hj
theorem JC.gen {P : Program} {n : Nat} {w0 : World} {R : Heap} {K : Exit → Fr → List Heap → Prop} {c : Code} {f : Fr} {L : List Heap} (l : List (Nat × Value)) (ha : agrees l f) (k : ∀ F, JC P n w0 R c K (pins l F) L) : JC P n w0 R c K f L := by
  rw [← pins_of l f ha]
  exact k f
theorem sub_flat {a b : List Heap} (h : a.Sublist b) : a.flatten.Sublist b.flatten := by
  induction h with
  | slnil => exact List.Sublist.refl _
  | cons x _ ih => rw [List.flatten_cons]; exact ih.trans (List.sublist_append_right _ _)
  | cons_cons x _ ih => rw [List.flatten_cons, List.flatten_cons]; exact (List.Sublist.refl _).append ih
theorem H.subl {w0 w : World} {R : Heap} {L L' : List Heap} (h : H w0 R L w) (hs : L'.Sublist L) : H w0 R L' w :=
  ⟨h.below, h.old, h.own.mono fun x hx => (sub_flat hs).subset hx, fun x hx => h.new x ((sub_flat hs).subset hx), List.Nodup.sublist ((sub_flat hs).map _) h.nodup⟩
theorem SlT.sub {α : Type} {enc : α → List Value} {size : Nat} {a : Option Addr} {ts : List α} {h h' : Heap} (hs : SlT enc size a ts h) (hh : ∀ x, x ∈ h → x ∈ h') : SlT enc size a ts h' :=
  ⟨hs.len, fun i hi => by obtain ⟨b, off, cs, e, fr, h1, h2, h3, h4⟩ := hs.at_ i hi; exact ⟨b, off, cs, e, fr, h1, hh _ h2, h3, h4⟩⟩
end Go.Cx
namespace Go.Proofs.Ytbhgahjeocnfcaa
open Go Go.Cx Go.RowKit
set_option linter.unusedVariables false
set_option linter.unusedSimpArgs false
set_option maxHeartbeats 4000000
attribute [local irreducible] J JC thenK blockK loopK drawK retK QW Qt pel List.set Calls
set_option maxRecDepth 8000
theorem wU64 {r : Nat} (h : r < 18446744073709551616) : IntKind.u64.wrap (r : Int) = (r : Int) := IntWalk.u64_in _ (by omega)
theorem wU32 {r : Nat} (h : r < 4294967296) : IntKind.u32.wrap (r : Int) = (r : Int) := IntWalk.u32_in _ (by omega)
theorem wI64 {r : Nat} (h : r < 9223372036854775808) : IntKind.i64.wrap (r : Int) = (r : Int) := IntWalk.i64_in _ (by omega)
theorem wT32 (r : Nat) : IntKind.u32.wrap (r : Int) = ((r % 4294967296 : Nat) : Int) := by rw [IntKind.wrap_u32]; rfl
theorem bv_g (k m : Nat) (hm : m < 2 ^ k) : (BitVec.ofInt k (m : Int)).toNat = m := by
  have : BitVec.ofInt k (m : Int) = BitVec.ofNat k m := by simp
  rw [this, BitVec.toNat_ofNat, Nat.mod_eq_of_lt hm]
section
variable {P : Program} {n : Nat} {w0 : World} {R : Heap} {l0 : List Oper} {K : Exit → Fr → List Heap → Prop} {f : Fr} {L : List Heap} {rest : List (Nat × Oper)} {κ : Nat} {Γ : List (Nat × TI)}
variable {d : Nat} {ty : TypeId} {pos : String} {aft : Array Edge} {g : Option (Nat × Bool)} {t u : TypeId} {x y : Operand} {k : IntKind} {a b : Nat}
theorem J.gadd (kk : J P n w0 R l0 K rest (upd f d (.int k ((a + b : Nat) : Int))) L) (hg : wantB n f l0 ⟨some d, .binOp .add t x y u, ty, pos, aft, g⟩ = true := by exact rfl) (hx : Cx.ev n f x = .int k (a : Int) := by exact rfl) (hy : Cx.ev n f y = .int k (b : Int) := by exact rfl) (hw : k.wrap ((a + b : Nat) : Int) = ((a + b : Nat) : Int) := by first | exact wU64 (by omega) | exact wU32 (by omega)) : J P n w0 R l0 K ((κ, ⟨some d, .binOp .add t x y u, ty, pos, aft, g⟩) :: rest) f L :=
  J.p hg (bin_run hx hy (fun w => by
    have h1 : k.wrap ((a : Int) + (b : Int)) = ((a + b : Nat) : Int) := hw
    simp [binOp, Op.intArith, h1, go_sem])) kk
theorem J.gsub (kk : J P n w0 R l0 K rest (upd f d (.int k ((a - b : Nat) : Int))) L) (hg : wantB n f l0 ⟨some d, .binOp .sub t x y u, ty, pos, aft, g⟩ = true := by exact rfl) (hx : Cx.ev n f x = .int k (a : Int) := by exact rfl) (hy : Cx.ev n f y = .int k (b : Int) := by exact rfl) (hb : b ≤ a := by omega) (hw : k.wrap ((a - b : Nat) : Int) = ((a - b : Nat) : Int) := by first | exact wI64 (by omega) | exact wU64 (by omega) | exact wU32 (by omega)) : J P n w0 R l0 K ((κ, ⟨some d, .binOp .sub t x y u, ty, pos, aft, g⟩) :: rest) f L :=
  J.p hg (bin_run hx hy (fun w => by
    have h0 : (a : Int) - (b : Int) = ((a - b : Nat) : Int) := by omega
    have h1 : k.wrap ((a : Int) - (b : Int)) = ((a - b : Nat) : Int) := by rw [h0]; exact hw
    simp [binOp, Op.intArith, h1, go_sem])) kk
theorem J.gmul (kk : J P n w0 R l0 K rest (upd f d (.int k ((a * b : Nat) : Int))) L) (hg : wantB n f l0 ⟨some d, .binOp .mul t x y u, ty, pos, aft, g⟩ = true := by exact rfl) (hx : Cx.ev n f x = .int k (a : Int) := by exact rfl) (hy : Cx.ev n f y = .int k (b : Int) := by exact rfl) (hw : k.wrap ((a * b : Nat) : Int) = ((a * b : Nat) : Int) := by first | exact wU64 (by omega) | exact wU32 (by omega)) : J P n w0 R l0 K ((κ, ⟨some d, .binOp .mul t x y u, ty, pos, aft, g⟩) :: rest) f L :=
  J.p hg (bin_run hx hy (fun w => by
    have h1 : k.wrap ((a : Int) * (b : Int)) = ((a * b : Nat) : Int) := hw
    simp [binOp, Op.intArith, h1, go_sem])) kk
theorem J.gquo (kk : J P n w0 R l0 K rest (upd f d (.int k ((a / b : Nat) : Int))) L) (hg : wantB n f l0 ⟨some d, .binOp .quo t x y u, ty, pos, aft, g⟩ = true := by exact rfl) (hx : Cx.ev n f x = .int k (a : Int) := by exact rfl) (hy : Cx.ev n f y = .int k (b : Int) := by exact rfl) (hb : 0 < b := by omega) (hw : k.wrap ((a / b : Nat) : Int) = ((a / b : Nat) : Int) := by first | exact wU64 (by omega) | exact wU32 (by omega)) : J P n w0 R l0 K ((κ, ⟨some d, .binOp .quo t x y u, ty, pos, aft, g⟩) :: rest) f L :=
  J.p hg (bin_run hx hy (fun w => by
    have h1 : k.wrap ((a : Int).tdiv (b : Int)) = ((a / b : Nat) : Int) := hw
    have h2 : ¬ ((b : Int) = 0) := by omega
    have h3 : ¬ (b = 0) := by omega
    simp [binOp, Op.intDiv, h2, h3, h1, go_sem]
    exact hw)) kk
theorem J.grem (kk : J P n w0 R l0 K rest (upd f d (.int k ((a % b : Nat) : Int))) L) (hg : wantB n f l0 ⟨some d, .binOp .rem t x y u, ty, pos, aft, g⟩ = true := by exact rfl) (hx : Cx.ev n f x = .int k (a : Int) := by exact rfl) (hy : Cx.ev n f y = .int k (b : Int) := by exact rfl) (hb : 0 < b := by omega) : J P n w0 R l0 K ((κ, ⟨some d, .binOp .rem t x y u, ty, pos, aft, g⟩) :: rest) f L :=
  J.p hg (bin_run hx hy (fun w => by
    have h1 : ((a : Int).tmod (b : Int)) = ((a % b : Nat) : Int) := rfl
    have h2 : ¬ ((b : Int) = 0) := by omega
    have h3 : ¬ (b = 0) := by omega
    simp [binOp, Op.intDiv, h2, h3, h1, go_sem])) kk
theorem J.gshl {yk : IntKind} {j : Nat} (kk : J P n w0 R l0 K rest (upd f d (.int k ((a * 2 ^ j : Nat) : Int))) L) (hg : wantB n f l0 ⟨some d, .binOp .shl t x y u, ty, pos, aft, g⟩ = true := by exact rfl) (hx : Cx.ev n f x = .int k (a : Int) := by exact rfl) (hy : Cx.ev n f y = .int yk (j : Int) := by exact rfl) (hj : j ≤ k.bits := by first | (show _ ≤ 64; omega) | (show _ ≤ 32; omega)) (hw : k.wrap ((a * 2 ^ j : Nat) : Int) = ((a * 2 ^ j : Nat) : Int) := by first | exact wU64 (by omega) | exact wU32 (by omega)) : J P n w0 R l0 K ((κ, ⟨some d, .binOp .shl t x y u, ty, pos, aft, g⟩) :: rest) f L :=
  J.p hg (bin_run hx hy (fun w => by
    have hn : ¬ ((j : Int) < 0) := by omega
    have hm : min ((j : Int)).toNat k.bits = j := by rw [Int.toNat_natCast]; exact Nat.min_eq_left hj
    have hcast : (a : Int) * ((2 : Int) ^ j) = ((a * 2 ^ j : Nat) : Int) := by rw [Int.natCast_mul, Int.natCast_pow]; rfl
    simp only [binOp, Op.shift, if_neg hn, hm, hcast, hw]
    rfl)) kk
theorem J.gshr {yk : IntKind} {j : Nat} (kk : J P n w0 R l0 K rest (upd f d (.int k ((a / 2 ^ j : Nat) : Int))) L) (hg : wantB n f l0 ⟨some d, .binOp .shr t x y u, ty, pos, aft, g⟩ = true := by exact rfl) (hx : Cx.ev n f x = .int k (a : Int) := by exact rfl) (hy : Cx.ev n f y = .int yk (j : Int) := by exact rfl) (hj : j ≤ k.bits := by first | (show _ ≤ 64; omega) | (show _ ≤ 32; omega)) : J P n w0 R l0 K ((κ, ⟨some d, .binOp .shr t x y u, ty, pos, aft, g⟩) :: rest) f L :=
  J.p hg (bin_run hx hy (fun w => by
    have hn : ¬ ((j : Int) < 0) := by omega
    have hm : min ((j : Int)).toNat k.bits = j := by rw [Int.toNat_natCast]; exact Nat.min_eq_left hj
    have hcast : ((2 : Int) ^ j) = ((2 ^ j : Nat) : Int) := by rw [Int.natCast_pow]; rfl
    have hd : ((a : Int)).fdiv ((2 : Int) ^ j) = ((a / 2 ^ j : Nat) : Int) := by
      rw [hcast, Int.fdiv_eq_ediv_of_nonneg _ (Int.natCast_nonneg _)]
      rfl
    simp only [binOp, Op.shift, if_neg hn, hm, hd]
    rfl)) kk
theorem J.gand (kk : J P n w0 R l0 K rest (upd f d (.int k ((a &&& b : Nat) : Int))) L) (hg : wantB n f l0 ⟨some d, .binOp .and t x y u, ty, pos, aft, g⟩ = true := by exact rfl) (hx : Cx.ev n f x = .int k (a : Int) := by exact rfl) (hy : Cx.ev n f y = .int k (b : Int) := by exact rfl) (ha : a < 2 ^ k.bits := by first | (show _ < 18446744073709551616; omega) | (show _ < 4294967296; omega)) (hb : b < 2 ^ k.bits := by first | (show _ < 18446744073709551616; omega) | (show _ < 4294967296; omega)) (hw : k.wrap ((a &&& b : Nat) : Int) = ((a &&& b : Nat) : Int) := by first | exact wU64 (Nat.and_lt_two_pow (n := 64) _ (by omega)) | exact wU32 (Nat.and_lt_two_pow (n := 32) _ (by omega))) : J P n w0 R l0 K ((κ, ⟨some d, .binOp .and t x y u, ty, pos, aft, g⟩) :: rest) f L :=
  J.p hg (bin_run hx hy (fun w => by
    have e : (BitVec.ofInt k.bits (a : Int) &&& BitVec.ofInt k.bits (b : Int)).toNat = a &&& b := by rw [BitVec.toNat_and, bv_g _ _ ha, bv_g _ _ hb]
    have : (Op.intBits .and k (a : Int) (b : Int)).run P w = .ok (.int k ((a &&& b : Nat) : Int)) w := by
      show (pure (Value.int k (k.wrap ((BitVec.ofInt k.bits (a : Int) &&& BitVec.ofInt k.bits (b : Int)).toNat : Int))) : Sem Value).run P w = _
      rw [e, hw]; rfl
    simpa [binOp] using this)) kk
theorem J.gor (kk : J P n w0 R l0 K rest (upd f d (.int k ((a ||| b : Nat) : Int))) L) (hg : wantB n f l0 ⟨some d, .binOp .or t x y u, ty, pos, aft, g⟩ = true := by exact rfl) (hx : Cx.ev n f x = .int k (a : Int) := by exact rfl) (hy : Cx.ev n f y = .int k (b : Int) := by exact rfl) (ha : a < 2 ^ k.bits := by first | (show _ < 18446744073709551616; omega) | (show _ < 4294967296; omega)) (hb : b < 2 ^ k.bits := by first | (show _ < 18446744073709551616; omega) | (show _ < 4294967296; omega)) (hw : k.wrap ((a ||| b : Nat) : Int) = ((a ||| b : Nat) : Int) := by first | exact wU64 (Nat.or_lt_two_pow (n := 64) (by omega) (by omega)) | exact wU32 (Nat.or_lt_two_pow (n := 32) (by omega) (by omega))) : J P n w0 R l0 K ((κ, ⟨some d, .binOp .or t x y u, ty, pos, aft, g⟩) :: rest) f L :=
  J.p hg (bin_run hx hy (fun w => by
    have e : (BitVec.ofInt k.bits (a : Int) ||| BitVec.ofInt k.bits (b : Int)).toNat = a ||| b := by rw [BitVec.toNat_or, bv_g _ _ ha, bv_g _ _ hb]
    have : (Op.intBits .or k (a : Int) (b : Int)).run P w = .ok (.int k ((a ||| b : Nat) : Int)) w := by
      show (pure (Value.int k (k.wrap ((BitVec.ofInt k.bits (a : Int) ||| BitVec.ofInt k.bits (b : Int)).toNat : Int))) : Sem Value).run P w = _
      rw [e, hw]; rfl
    simpa [binOp] using this)) kk
theorem J.gcv {src dst : TypeId} {k1 k2 : IntKind} {ts : TI} {s2 b2 : Nat} {z2 : Option Value} {r : Nat} (hΓ : Fits P Γ) (kk : J P n w0 R l0 K rest (upd f d (.int k2 (r : Int))) L) (hg : wantB n f l0 ⟨some d, .convert src dst x, ty, pos, aft, g⟩ = true := by exact rfl) (hx : Cx.ev n f x = .int k1 (a : Int) := by exact rfl) (hs : Cx.look Γ src = some ts := by exact rfl) (hd : Cx.look Γ dst = some ⟨.int k2, s2, z2, b2⟩ := by exact rfl) (hk : k2.wrap (a : Int) = (r : Int) := by first | exact wU64 (by omega) | exact wI64 (by omega) | exact wT32 _ | exact wT8 _) : J P n w0 R l0 K ((κ, ⟨some d, .convert src dst x, ty, pos, aft, g⟩) :: rest) f L := by
  obtain ⟨dd, s3, z3, b3⟩ := ts
  refine J.ev (v := .int k2 (r : Int)) hΓ hg ?_ kk
  simp only [pureEv, hx, hs, hd]
  rw [hk]
end
theorem ones_law2 (x : Nat) (h : x < 18446744073709551616) : ∀ a b c d e f, a = ((x / 2 ^ 1) &&& 6148914691236517205) + (x &&& 6148914691236517205) → b = ((a / 2 ^ 2) &&& 3689348814741910323) + (a &&& 3689348814741910323) → c = (b / 2 ^ 4 + b) &&& 1085102592571150095 →
    d = c + c / 2 ^ 8 → e = d + d / 2 ^ 16 → f = e + e / 2 ^ 32 → a < 18446744073709551616 ∧ b < 18446744073709551616 ∧ b / 2 ^ 4 + b < 18446744073709551616 ∧ d < 18446744073709551616 ∧ e < 18446744073709551616 ∧ f < 9223372036854775808 ∧ f % 128 = pc 64 x := fun a b c d e f ha hb hc hd he hf => ones_law x h a b c d e f ha hb hc hd he hf
theorem eOnes : Entr Try.prog 122 := Entr.of Try.func122 rfl rfl
theorem ones_any (x : Nat) (h : x < 18446744073709551616) (w : World) : Calls Try.prog 122 #[.int .u64 (x : Int)] w fun e w' => e = .returned (.int .i64 (pc 64 x : Int)) ∧ Below w.heap.size w w' := by
  obtain ⟨h1, h2, h3, h4, h5, h6, h7⟩ := ones_law2 x h _ _ _ _ _ _ rfl rfl rfl rfl rfl rfl
  refine calls_of_JC (R := []) Try.func122 Try.ntmps122 rfl rfl (Holds.nil _) ?_
  repeat' first
    | (refine J.isJ ?_; first | (first | (refine J.o 1 ?_; first | refine J.gshr (j := 1) ?_ | refine J.gshr (j := 2) ?_ | refine J.gshr (j := 4) ?_ | refine J.gshr (j := 8) ?_ | refine J.gshr (j := 16) ?_ | refine J.gshr (j := 32) ?_ | refine J.gand (b := 6148914691236517205) ?_ | refine J.gand (b := 3689348814741910323) ?_ | refine J.gand (b := 1085102592571150095) ?_ | refine J.gadd ?_ | refine J.gand (b := 127) ?_ (hw := wI64 (Nat.lt_of_le_of_lt Nat.and_le_right (by omega)))) | (refine J.o 2 ?_; refine J.gcv hΓ ?_)) | (first | (refine J.o 0 ?_; refine J.ev' hΓ ?_) | refine J.nil ?_ | (refine J.o 3 ?_; first | refine J.ev' hΓ ?_) | (refine J.o 10 ?_; refine J.ev' hΓ ?_) | (refine J.o 11 ?_; refine J.ev' hΓ ?_)))
    | (first | refine JC.seq ?_ | refine JC.region ?_ | refine JC.ret ?_ | refine thenK.nn ?_)
    | (fail)
    | fail
  all_goals (refine ret1f rfl rfl rfl (fun w1 hw => ⟨?_, hw.below⟩))
  refine congrArg (fun z : Nat => Ending.returned (Value.int .i64 (z : Int))) ?_
  rw [← h7]
  exact Nat.and_two_pow_sub_one_eq_mod _ 7
end Go.Proofs.Ytbhgahjeocnfcaa
namespace Go.Proofs.Ytbhgahjeocnfcaa
open Go Go.Cx
set_option linter.unusedVariables false
set_option linter.unusedSimpArgs false
structure N3 where
  p : Nat
  l : Nat
  h : Nat
  deriving DecidableEq
instance : Inhabited N3 := ⟨⟨0, 0, 0⟩⟩
def nd (ns : List N3) (i : Nat) : N3 := ns.getD i default
def ev (ns : List N3) (a : Nat → Bool) : Nat → Nat → Bool
  | 0, i => decide (i = 1)
  | f + 1, i => if i < 2 then decide (i = 1) else if a (nd ns i).p then ev ns a f (nd ns i).h else ev ns a f (nd ns i).l
structure WF (n : Nat) (ns : List N3) : Prop where
  two : 2 ≤ ns.length
  c0 : nd ns 0 = ⟨n, 0, 0⟩
  c1 : nd ns 1 = ⟨n, 0, 0⟩
  pl : ∀ i, 2 ≤ i → i < ns.length → (nd ns i).p < n
  ll : ∀ i, 2 ≤ i → i < ns.length → (nd ns i).l < ns.length
  hl : ∀ i, 2 ≤ i → i < ns.length → (nd ns i).h < ns.length
  lp : ∀ i, 2 ≤ i → i < ns.length → (nd ns i).p < (nd ns (nd ns i).l).p
  hp : ∀ i, 2 ≤ i → i < ns.length → (nd ns i).p < (nd ns (nd ns i).h).p
  ne : ∀ i, 2 ≤ i → i < ns.length → (nd ns i).l ≠ (nd ns i).h
  inj : ∀ i j, 2 ≤ i → i < ns.length → 2 ≤ j → j < ns.length → nd ns i = nd ns j → i = j
  asc : ∀ i, 2 ≤ i → i < ns.length → (nd ns i).l < i ∧ (nd ns i).h < i
def fn (n : Nat) (ns : List N3) (i : Nat) (a : Nat → Bool) : Bool := ev ns a n i
theorem ev_const (ns : List N3) (a : Nat → Bool) (i : Nat) (hi : i < 2) : ∀ f, ev ns a f i = decide (i = 1)
  | 0 => rfl
  | f + 1 => by rw [ev, if_pos hi]
theorem WF.pconst {n : Nat} {ns : List N3} (w : WF n ns) {i : Nat} (hi : i < 2) : (nd ns i).p = n := by
  rcases Nat.lt_or_ge i 1 with h | h
  · rw [show i = 0 by omega, w.c0]
  · rw [show i = 1 by omega, w.c1]
theorem WF.ple {n : Nat} {ns : List N3} (w : WF n ns) {i : Nat} (hi : i < ns.length) : (nd ns i).p ≤ n := by
  rcases Nat.lt_or_ge i 2 with h | h
  · rw [w.pconst h]; exact Nat.le_refl _
  · exact Nat.le_of_lt (w.pl i h hi)
theorem WF.nonconst {n : Nat} {ns : List N3} (w : WF n ns) {i : Nat} (h : (nd ns i).p < n) : 2 ≤ i := by
  rcases Nat.lt_or_ge i 2 with h2 | h2
  · rw [w.pconst h2] at h; omega
  · exact h2
theorem ev_fuel {n : Nat} {ns : List N3} (w : WF n ns) (a : Nat → Bool) : ∀ (f g i : Nat), i < ns.length → n - (nd ns i).p ≤ f → n - (nd ns i).p ≤ g → ev ns a f i = ev ns a g i
  | f, g, i, hi, hf, hg => by
    rcases Nat.lt_or_ge i 2 with h2 | h2
    · rw [ev_const _ _ _ h2, ev_const _ _ _ h2]
    · have hp := w.pl i h2 hi
      obtain ⟨f', rfl⟩ : ∃ f', f = f' + 1 := ⟨f - 1, by omega⟩
      obtain ⟨g', rfl⟩ : ∃ g', g = g' + 1 := ⟨g - 1, by omega⟩
      have hl := w.lp i h2 hi
      have hh := w.hp i h2 hi
      have hn : ¬ i < 2 := by omega
      rw [ev, ev, if_neg hn, if_neg hn, ev_fuel w a f' g' _ (w.ll i h2 hi) (by omega) (by omega), ev_fuel w a f' g' _ (w.hl i h2 hi) (by omega) (by omega)]
theorem fn_0 {n : Nat} {ns : List N3} (w : WF n ns) (a : Nat → Bool) : fn n ns 0 a = false := by unfold fn; rw [ev_const _ _ _ (by omega)]; rfl
theorem fn_1 {n : Nat} {ns : List N3} (w : WF n ns) (a : Nat → Bool) : fn n ns 1 a = true := by unfold fn; rw [ev_const _ _ _ (by omega)]; rfl
theorem fn_node {n : Nat} {ns : List N3} (w : WF n ns) (a : Nat → Bool) {i : Nat} (h2 : 2 ≤ i) (hi : i < ns.length) :
    fn n ns i a = if a (nd ns i).p then fn n ns (nd ns i).h a else fn n ns (nd ns i).l a := by
  have hp := w.pl i h2 hi
  have hl := w.lp i h2 hi
  have hh := w.hp i h2 hi
  unfold fn
  rw [ev_fuel w a n ((n - 1) + 1) i hi (by omega) (by omega), ev, if_neg (by omega), ev_fuel w a (n - 1) n _ (w.ll i h2 hi) (by omega) (by omega), ev_fuel w a (n - 1) n _ (w.hl i h2 hi) (by omega) (by omega)]
def up (a : Nat → Bool) (k : Nat) (b : Bool) : Nat → Bool := fun j => if j = k then b else a j
theorem up_ne (a : Nat → Bool) {k j : Nat} (b : Bool) (h : j ≠ k) : up a k b j = a j := by unfold up; rw [if_neg h]
theorem up_eq (a : Nat → Bool) (k : Nat) (b : Bool) : up a k b k = b := by unfold up; rw [if_pos rfl]
theorem fn_dep {n : Nat} {ns : List N3} (w : WF n ns) {a b : Nat → Bool} : ∀ (m i : Nat), n - (nd ns i).p ≤ m → i < ns.length → (∀ k, (nd ns i).p ≤ k → a k = b k) → fn n ns i a = fn n ns i b
  | m, i, hm, hi, hab => by
    rcases Nat.lt_or_ge i 2 with h2 | h2
    · unfold fn; rw [ev_const _ _ _ h2, ev_const _ _ _ h2]
    · have hp := w.pl i h2 hi
      have hl := w.lp i h2 hi
      have hh := w.hp i h2 hi
      obtain ⟨m', rfl⟩ : ∃ m', m = m' + 1 := ⟨m - 1, by omega⟩
      rw [fn_node w a h2 hi, fn_node w b h2 hi, hab _ (Nat.le_refl _), fn_dep w m' _ (by omega) (w.ll i h2 hi) fun k hk => hab k (by omega), fn_dep w m' _ (by omega) (w.hl i h2 hi) fun k hk => hab k (by omega)]
theorem fn_up {n : Nat} {ns : List N3} (w : WF n ns) (a : Nat → Bool) {i k : Nat} (b : Bool) (hi : i < ns.length) (hk : k < (nd ns i).p) : fn n ns i (up a k b) = fn n ns i a :=
  fn_dep w _ i (Nat.le_refl _) hi fun j hj => up_ne a b (by omega)
theorem canon {n : Nat} {ns : List N3} (w : WF n ns) : ∀ (m i j : Nat), n - (nd ns i).p ≤ m → n - (nd ns j).p ≤ m → i < ns.length → j < ns.length → (∀ a, fn n ns i a = fn n ns j a) → i = j
  | m, i, j, hmi, hmj, hi, hj, h => by
    have side : ∀ (i j : Nat), n - (nd ns i).p ≤ m → n - (nd ns j).p ≤ m → i < ns.length → j < ns.length → (∀ a, fn n ns i a = fn n ns j a) → (nd ns i).p < (nd ns j).p → False := by
      intro i j hmi hmj hi hj h hlt
      have hpj := w.ple hj
      have h2 := w.nonconst (show (nd ns i).p < n by omega)
      have hl := w.lp i h2 hi
      have hh := w.hp i h2 hi
      refine w.ne i h2 hi (match m with
        | 0 => by omega
        | m' + 1 => canon w m' _ _ (by omega) (by omega) (w.ll i h2 hi) (w.hl i h2 hi) fun a => ?_)
      have e0 := h (up a (nd ns i).p false)
      have e1 := h (up a (nd ns i).p true)
      rw [fn_node w _ h2 hi, up_eq, if_neg (by decide), fn_up w a _ (w.ll i h2 hi) hl, fn_up w a _ hj hlt] at e0
      rw [fn_node w _ h2 hi, up_eq, if_pos rfl, fn_up w a _ (w.hl i h2 hi) hh, fn_up w a _ hj hlt] at e1
      rw [e0, e1]
    rcases Nat.lt_trichotomy (nd ns i).p (nd ns j).p with hlt | heq | hgt
    · exact (side i j hmi hmj hi hj h hlt).elim
    · rcases Nat.lt_or_ge i 2 with hi2 | hi2
      · have hj2 : j < 2 := by
          rcases Nat.lt_or_ge j 2 with h2 | h2
          · exact h2
          · have := w.pl j h2 hj
            rw [w.pconst hi2] at heq; omega
        have h0 := h fun _ => false
        unfold fn at h0
        rw [ev_const _ _ _ hi2, ev_const _ _ _ hj2] at h0
        have := decide_eq_decide.1 h0
        omega
      · have hpi := w.pl i hi2 hi
        have hj2 := w.nonconst (show (nd ns j).p < n by omega)
        have hli := w.lp i hi2 hi
        have hhi := w.hp i hi2 hi
        have hlj := w.lp j hj2 hj
        have hhj := w.hp j hj2 hj
        obtain ⟨m', rfl⟩ : ∃ m', m = m' + 1 := ⟨m - 1, by omega⟩
        refine w.inj i j hi2 hi hj2 hj ?_
        have el : (nd ns i).l = (nd ns j).l := canon w m' _ _ (by omega) (by omega) (w.ll i hi2 hi) (w.ll j hj2 hj) fun a => by
          have e0 := h (up a (nd ns i).p false)
          rw [fn_node w _ hi2 hi, up_eq, if_neg (by decide), fn_up w a _ (w.ll i hi2 hi) hli, fn_node w _ hj2 hj, ← heq, up_eq, if_neg (by decide), fn_up w a _ (w.ll j hj2 hj) (by omega)] at e0
          exact e0
        have eh : (nd ns i).h = (nd ns j).h := canon w m' _ _ (by omega) (by omega) (w.hl i hi2 hi) (w.hl j hj2 hj) fun a => by
          have e1 := h (up a (nd ns i).p true)
          rw [fn_node w _ hi2 hi, up_eq, if_pos rfl, fn_up w a _ (w.hl i hi2 hi) hhi, fn_node w _ hj2 hj, ← heq, up_eq, if_pos rfl, fn_up w a _ (w.hl j hj2 hj) (by omega)] at e1
          exact e1
        cases hni : nd ns i
        cases hnj : nd ns j
        rw [hni, hnj] at heq el eh
        simp only at heq el eh
        rw [heq, el, eh]
    · exact (side j i hmj hmi hj hi (fun a => (h a).symm) hgt).elim
theorem WF.eq {n : Nat} {ns : List N3} (w : WF n ns) {i j : Nat} (hi : i < ns.length) (hj : j < ns.length) (h : ∀ a, fn n ns i a = fn n ns j a) : i = j :=
  canon w n i j (by omega) (by omega) hi hj h
structure Ext (ns ms : List N3) : Prop where
  le : ns.length ≤ ms.length
  at_ : ∀ i, i < ns.length → nd ms i = nd ns i
theorem Ext.refl (ns : List N3) : Ext ns ns := ⟨Nat.le_refl _, fun _ _ => rfl⟩
theorem Ext.trans {a b c : List N3} (h : Ext a b) (g : Ext b c) : Ext a c := ⟨Nat.le_trans h.le g.le, fun i hi => by rw [g.at_ i (Nat.lt_of_lt_of_le hi h.le), h.at_ i hi]⟩
theorem nd_app (ns : List N3) (x : N3) {i : Nat} (hi : i < ns.length) : nd (ns ++ [x]) i = nd ns i := by
  unfold nd; rw [List.getD_eq_getElem?_getD, List.getElem?_append_left hi, ← List.getD_eq_getElem?_getD]
theorem nd_last (ns : List N3) (x : N3) : nd (ns ++ [x]) ns.length = x := by
  unfold nd; rw [List.getD_eq_getElem?_getD, List.getElem?_append_right (Nat.le_refl _), Nat.sub_self]; rfl
theorem Ext.app (ns : List N3) (x : N3) : Ext ns (ns ++ [x]) := ⟨by simp, fun i hi => nd_app ns x hi⟩
theorem ev_ext {n : Nat} {ns ms : List N3} (w : WF n ns) (e : Ext ns ms) (a : Nat → Bool) : ∀ (f i : Nat), i < ns.length → ev ms a f i = ev ns a f i
  | 0, i, _ => rfl
  | f + 1, i, hi => by
    rw [ev, ev, e.at_ i hi]
    split
    · rfl
    · rename_i h2
      rw [ev_ext w e a f _ (w.ll i (by omega) hi), ev_ext w e a f _ (w.hl i (by omega) hi)]
theorem fn_ext {n : Nat} {ns ms : List N3} (w : WF n ns) (e : Ext ns ms) {i : Nat} (hi : i < ns.length) (a : Nat → Bool) : fn n ms i a = fn n ns i a := ev_ext w e a n i hi
theorem WF.add {n : Nat} {ns : List N3} (w : WF n ns) {x : N3} (hp : x.p < n) (hl : x.l < ns.length) (hh : x.h < ns.length) (hlp : x.p < (nd ns x.l).p) (hhp : x.p < (nd ns x.h).p) (hne : x.l ≠ x.h) (hnew : ∀ i, 2 ≤ i → i < ns.length → nd ns i ≠ x) : WF n (ns ++ [x]) := by
  have hlen : (ns ++ [x]).length = ns.length + 1 := by simp
  have h2 := w.two
  have key : ∀ i, 2 ≤ i → i < (ns ++ [x]).length → (i < ns.length ∧ nd (ns ++ [x]) i = nd ns i) ∨ (i = ns.length ∧ nd (ns ++ [x]) i = x) := fun i _ hi => by
    rcases Nat.lt_or_ge i ns.length with h | h
    · exact .inl ⟨h, nd_app ns x h⟩
    · have : i = ns.length := by omega
      subst this
      exact .inr ⟨rfl, nd_last ns x⟩
  refine ⟨by omega, by rw [nd_app ns x (by omega), w.c0], by rw [nd_app ns x (by omega), w.c1], ?_, ?_, ?_, ?_, ?_, ?_, ?_, ?_⟩
  · intro i hi2 hi
    rcases key i hi2 hi with ⟨h, e⟩ | ⟨h, e⟩ <;> rw [e]
    · exact w.pl i hi2 h
    · exact hp
  · intro i hi2 hi
    rcases key i hi2 hi with ⟨h, e⟩ | ⟨h, e⟩ <;> rw [e, hlen]
    · have := w.ll i hi2 h; omega
    · omega
  · intro i hi2 hi
    rcases key i hi2 hi with ⟨h, e⟩ | ⟨h, e⟩ <;> rw [e, hlen]
    · have := w.hl i hi2 h; omega
    · omega
  · intro i hi2 hi
    rcases key i hi2 hi with ⟨h, e⟩ | ⟨h, e⟩ <;> rw [e]
    · rw [nd_app ns x (w.ll i hi2 h)]; exact w.lp i hi2 h
    · rw [nd_app ns x hl]; exact hlp
  · intro i hi2 hi
    rcases key i hi2 hi with ⟨h, e⟩ | ⟨h, e⟩ <;> rw [e]
    · rw [nd_app ns x (w.hl i hi2 h)]; exact w.hp i hi2 h
    · rw [nd_app ns x hh]; exact hhp
  · intro i hi2 hi
    rcases key i hi2 hi with ⟨h, e⟩ | ⟨h, e⟩ <;> rw [e]
    · exact w.ne i hi2 h
    · exact hne
  · intro i j hi2 hi hj2 hj hij
    rcases key i hi2 hi with ⟨h, e⟩ | ⟨h, e⟩ <;> rcases key j hj2 hj with ⟨h', e'⟩ | ⟨h', e'⟩ <;> rw [e, e'] at hij
    · exact w.inj i j hi2 h hj2 h' hij
    · exact (hnew i hi2 h hij).elim
    · exact (hnew j hj2 h' hij.symm).elim
    · omega
  · intro i hi2 hi
    rcases key i hi2 hi with ⟨h, e⟩ | ⟨h, e⟩ <;> rw [e]
    · exact w.asc i hi2 h
    · exact ⟨by omega, by omega⟩
end Go.Proofs.Ytbhgahjeocnfcaa
namespace Go.Proofs.Ytbhgahjeocnfcaa
open Go Go.Cx
set_option linter.unusedVariables false
set_option linter.unusedSimpArgs false
def partN (ns : List N3) (a k : Nat) (b : Bool) : Nat := if (nd ns a).p ≠ k then a else if b then (nd ns a).h else (nd ns a).l
theorem part_lt {n : Nat} {ns : List N3} (w : WF n ns) {a k : Nat} (b : Bool) (ha : a < ns.length) (hk : k < n) : partN ns a k b < ns.length := by
  unfold partN
  split
  · exact ha
  · rename_i h
    have h2 := w.nonconst (show (nd ns a).p < n by omega)
    cases b
    · exact w.ll a h2 ha
    · exact w.hl a h2 ha
theorem part_p {n : Nat} {ns : List N3} (w : WF n ns) {a k : Nat} (b : Bool) (ha : a < ns.length) (hk : k < n) (hp : k ≤ (nd ns a).p) : k < (nd ns (partN ns a k b)).p := by
  unfold partN
  split
  · omega
  · rename_i h
    have h2 := w.nonconst (show (nd ns a).p < n by omega)
    have hl := w.lp a h2 ha
    have hh := w.hp a h2 ha
    cases b
    · show k < (nd ns (nd ns a).l).p; omega
    · show k < (nd ns (nd ns a).h).p; omega
theorem part_fn {n : Nat} {ns : List N3} (w : WF n ns) {a k : Nat} (c : Nat → Bool) (ha : a < ns.length) (hk : k < n) : fn n ns (partN ns a k (c k)) c = fn n ns a c := by
  unfold partN
  split
  · rfl
  · rename_i h
    have hk2 : (nd ns a).p = k := by omega
    have h2 := w.nonconst (show (nd ns a).p < n by omega)
    rw [fn_node w c h2 ha, hk2]
    cases c k <;> rfl
theorem part_ext {ns ms : List N3} (e : Ext ns ms) {a k : Nat} (b : Bool) (ha : a < ns.length) : partN ms a k b = partN ns a k b := by unfold partN; rw [e.at_ a ha]
structure T3 where
  a : Nat
  b : Nat
  c : Nat
  deriving DecidableEq
instance : Inhabited T3 := ⟨⟨0, 0, 0⟩⟩
def T3.lt (x : T3) (m : Nat) : Prop := x.a < m ∧ x.b < m ∧ x.c < m
def T3.from (ns : List N3) (x : T3) (k : Nat) : Prop := k ≤ (nd ns x.a).p ∧ k ≤ (nd ns x.b).p ∧ k ≤ (nd ns x.c).p
def partT (ns : List N3) (x : T3) (k : Nat) (b : Bool) : T3 := ⟨partN ns x.a k b, partN ns x.b k b, partN ns x.c k b⟩
structure Ite (n : Nat) (ns : List N3) (x : T3) (y : Nat) : Prop where
  lt : y < ns.length
  eq : ∀ a, fn n ns y a = if fn n ns x.a a then fn n ns x.b a else fn n ns x.c a
theorem Ite.ext {n : Nat} {ns ms : List N3} (w : WF n ns) (e : Ext ns ms) {x : T3} {y : Nat} (hx : x.lt ns.length) (h : Ite n ns x y) : Ite n ms x y :=
  ⟨Nat.lt_of_lt_of_le h.lt e.le, fun a => by rw [fn_ext w e h.lt, fn_ext w e hx.1, fn_ext w e hx.2.1, fn_ext w e hx.2.2, h.eq]⟩
theorem Ite.t1 {n : Nat} {ns : List N3} (w : WF n ns) {x : T3} (hx : x.lt ns.length) (h : x.a = 1 ∨ x.b = x.c) : Ite n ns x x.b :=
  ⟨hx.2.1, fun a => by
    rcases h with h | h
    · rw [h, fn_1 w]; rfl
    · rw [h]; split <;> rfl⟩
theorem Ite.t2 {n : Nat} {ns : List N3} (w : WF n ns) {x : T3} (hx : x.lt ns.length) (h : x.a = 0) : Ite n ns x x.c :=
  ⟨hx.2.2, fun a => by rw [h, fn_0 w]; rfl⟩
theorem Ite.t3 {n : Nat} {ns : List N3} (w : WF n ns) {x : T3} (hx : x.lt ns.length) (h : x.b = 1) (g : x.c = 0) : Ite n ns x x.a :=
  ⟨hx.1, fun a => by rw [h, g, fn_0 w, fn_1 w]; cases fn n ns x.a a <;> rfl⟩
theorem from_dep {n : Nat} {ns : List N3} (w : WF n ns) {y k : Nat} (hy : y < ns.length) (hk : k ≤ n) (h : ∀ a j b, j < k → fn n ns y (up a j b) = fn n ns y a) : k ≤ (nd ns y).p := by
  rcases Nat.lt_or_ge (nd ns y).p k with hlt | hge
  · exfalso
    have h2 := w.nonconst (show (nd ns y).p < n by omega)
    refine w.ne y h2 hy (w.eq (w.ll y h2 hy) (w.hl y h2 hy) fun a => ?_)
    have e0 := h a (nd ns y).p false hlt
    have e1 := h a (nd ns y).p true hlt
    rw [fn_node w _ h2 hy, up_eq, if_neg (by decide), fn_up w a _ (w.ll y h2 hy) (w.lp y h2 hy)] at e0
    rw [fn_node w _ h2 hy, up_eq, if_pos rfl, fn_up w a _ (w.hl y h2 hy) (w.hp y h2 hy)] at e1
    rw [e0, e1]
  · exact hge
theorem Ite.from {n : Nat} {ns : List N3} (w : WF n ns) {x : T3} {y k : Nat} (h : Ite n ns x y) (hx : x.lt ns.length) (hf : x.from ns k) : k ≤ (nd ns y).p := by
  have hk : k ≤ n := Nat.le_trans hf.1 (w.ple hx.1)
  refine from_dep w h.lt hk fun a j b hj => ?_
  rw [h.eq, h.eq, fn_up w a b hx.1 (by have := hf.1; omega), fn_up w a b hx.2.1 (by have := hf.2.1; omega), fn_up w a b hx.2.2 (by have := hf.2.2; omega)]
theorem Ite.join {n : Nat} {ns : List N3} (w : WF n ns) {x : T3} {k l h y : Nat} (hx : x.lt ns.length) (hk : k < n) (hl : Ite n ns (partT ns x k false) l) (hh : Ite n ns (partT ns x k true) h)
    (hy : y < ns.length) (he : ∀ a, fn n ns y a = if a k then fn n ns h a else fn n ns l a) : Ite n ns x y := by
  refine ⟨hy, fun a => ?_⟩
  have h1 := part_fn w a hx.1 hk
  have h2 := part_fn w a hx.2.1 hk
  have h3 := part_fn w a hx.2.2 hk
  rw [he]
  cases ha : a k with
  | true =>
    rw [ha] at h1 h2 h3
    rw [if_pos rfl, hh.eq]
    show (if fn n ns (partN ns x.a k true) a then fn n ns (partN ns x.b k true) a else fn n ns (partN ns x.c k true) a) = _
    rw [h1, h2, h3]
  | false =>
    rw [ha] at h1 h2 h3
    rw [if_neg (by decide), hl.eq]
    show (if fn n ns (partN ns x.a k false) a then fn n ns (partN ns x.b k false) a else fn n ns (partN ns x.c k false) a) = _
    rw [h1, h2, h3]
structure UOk (ns : List N3) (u : List (N3 × Nat)) : Prop where
  all : ∀ i, 2 ≤ i → i < ns.length → (nd ns i, i) ∈ u
  only : ∀ x i, (x, i) ∈ u → 2 ≤ i ∧ i < ns.length ∧ nd ns i = x
def MOk (n : Nat) (ns : List N3) (m : List (T3 × Nat)) : Prop := ∀ x y, (x, y) ∈ m → x.lt ns.length ∧ Ite n ns x y
theorem MOk.ext {n : Nat} {ns ms : List N3} (w : WF n ns) (e : Ext ns ms) {m : List (T3 × Nat)} (h : MOk n ns m) : MOk n ms m := fun x y hxy => by
  obtain ⟨h1, h2⟩ := h x y hxy
  exact ⟨⟨Nat.lt_of_lt_of_le h1.1 e.le, Nat.lt_of_lt_of_le h1.2.1 e.le, Nat.lt_of_lt_of_le h1.2.2 e.le⟩, h2.ext w e h1⟩
end Go.Proofs.Ytbhgahjeocnfcaa
namespace Go.Cx
open Go Go.RowKit Go.Maps
set_option linter.unusedVariables false
set_option linter.unusedSimpArgs false
section
variable {P : Program} {κ β : Type} [DecidableEq κ] {k : TypeId} {ek : κ → Value} {ev : β → Value}
def mget (m : List (κ × β)) (x : κ) : Option β := (m.find? fun p => decide (p.1 = x)).map (·.2)
def mput (m : List (κ × β)) (x : κ) (y : β) : List (κ × β) := if (m.map (·.1)).contains x then m.map (fun p => if p.1 = x then (x, y) else p) else m ++ [(x, y)]
structure MapT (P : Program) (k : TypeId) (ek : κ → Value) (ev : β → Value) (m : List (κ × β)) (b : Nat) (h : Heap) : Prop where
  row : ∃ es clock, h = [(b, .map ⟨es⟩ clock)] ∧ es.map (fun e => (e.key, e.val)) = m.map (fun p => (ek p.1, ev p.2)) ∧ MapKept.Stamped ⟨es⟩ clock
  keys : ∀ p, p ∈ m → ∃ l, keyOf P k (ek p.1) = some l
  nodup : (m.map (·.1)).Nodup
theorem mget_of (m : List (κ × β)) (hn : (m.map (·.1)).Nodup) : ∀ p, p ∈ m → mget m p.1 = some p.2 := by
  induction m with
  | nil => intro p hp; cases hp
  | cons q m ih =>
    intro p hp
    rw [List.map_cons, List.nodup_cons] at hn
    unfold mget
    rw [List.find?_cons]
    rcases List.mem_cons.1 hp with rfl | hp
    · simp
    · have hne : q.1 ≠ p.1 := fun e => hn.1 (e ▸ List.mem_map_of_mem hp)
      rw [decide_eq_false hne]
      exact ih hn.2 p hp
theorem mget_none (m : List (κ × β)) (x : κ) (h : ∀ p, p ∈ m → p.1 ≠ x) : mget m x = none := by
  unfold mget
  rw [List.find?_eq_none.2 (fun p hp => by simpa using h p hp)]
  rfl
theorem MapT.find {m : List (κ × β)} {b : Nat} {h : Heap} (K : Keyed P k) (inj : ∀ x y, ek x = ek y → x = y) (mt : MapT P k ek ev m b h) (x : κ) (hx : ∃ l, keyOf P k (ek x) = some l) {es : List MapEntry} {clock : Nat} (he : h = [(b, .map ⟨es⟩ clock)]) (w : World) :
    (Instr.findKey k (ek x) es).run P w = .ok none w ∧ mget m x = none ∨ ∃ j y, (Instr.findKey k (ek x) es).run P w = .ok (some (j, ev y)) w ∧ mget m x = some y ∧ m[j]? = some (x, y) := by
  obtain ⟨es', clock', he', hrow, _⟩ := mt.row
  rw [he] at he'
  simp only [List.cons.injEq, Prod.mk.injEq, Obj.map.injEq, and_true, true_and] at he'
  obtain ⟨e1, rfl⟩ := he'
  have e1' : es = es' := by simpa using e1
  subst e1'
  obtain ⟨l, hl⟩ := hx
  have hat : ∀ (j : Nat) (e : MapEntry), es[j]? = some e → ∃ p : κ × β, m[j]? = some p ∧ e.key = ek p.1 ∧ e.val = ev p.2 := fun j e hj => by
    have h1 : (es.map (fun e => (e.key, e.val)))[j]? = some (e.key, e.val) := by rw [List.getElem?_map, hj]; rfl
    rw [hrow, List.getElem?_map] at h1
    cases hm : m[j]? with
    | none => rw [hm] at h1; cases h1
    | some p => rw [hm] at h1; simp at h1; exact ⟨p, rfl, h1.1.symm, h1.2.symm⟩
  have hks : ∀ e : MapEntry, e ∈ es → ∃ l, keyOf P k e.key = some l := fun e hm => by
    obtain ⟨j, hj⟩ := List.getElem?_of_mem hm
    obtain ⟨p, hp, hk, _⟩ := hat j e hj
    rw [hk]; exact mt.keys p (List.mem_of_getElem? hp)
  rcases K.find w hl es hks with ⟨h1, h2⟩ | ⟨j, e, h1, h2, h3⟩
  · refine .inl ⟨h1, mget_none m x fun p hp hpx => ?_⟩
    obtain ⟨j, hj⟩ := List.getElem?_of_mem hp
    have h4 : (es.map (fun e => (e.key, e.val)))[j]? = some (ek p.1, ev p.2) := by rw [hrow, List.getElem?_map, hj]; rfl
    rw [List.getElem?_map] at h4
    cases hm : es[j]? with
    | none => rw [hm] at h4; cases h4
    | some e => rw [hm] at h4; simp at h4; exact h2 e (List.mem_of_getElem? hm) (by rw [h4.1, hpx])
  · obtain ⟨p, hp, hk, hv⟩ := hat j e h2
    have : p.1 = x := inj _ _ (by rw [← hk, h3])
    refine .inr ⟨j, p.2, by rw [h1, hv], ?_, ?_⟩
    · rw [← this]; exact mget_of m mt.nodup p (List.mem_of_getElem? hp)
    · rw [hp, ← this]
theorem MapT.lookup {m : List (κ × β)} {b : Nat} {h : Heap} {t e : TypeId} {z : Value} (K : Keyed P k) (inj : ∀ x y, ek x = ek y → x = y) (mt : MapT P k ek ev m b h) (ht : P.underlying t = some (.map k e)) (x : κ) (hx : ∃ l, keyOf P k (ek x) = some l) (w : World) (hw : Holds h w) (hz : (zeroValue e).run P w = .ok z w) (c : Bool) :
    (Instr.lookup t (.map (some b)) (ek x) c).run P w = .ok (if c then .tuple #[(match mget m x with | some y => ev y | none => z), .bool (mget m x).isSome] else (match mget m x with | some y => ev y | none => z)) w := by
  obtain ⟨es, clock, he, hrow, hst⟩ := mt.row
  have hb : w.heap[b]? = some (.map ⟨es⟩ clock) := hw (b, _) (by rw [he]; simp)
  obtain ⟨l, hl⟩ := hx
  rcases mt.find K inj x ⟨l, hl⟩ he w with ⟨h1, h2⟩ | ⟨j, y, h1, h2, h3⟩
  · cases c <;> simp [Instr.lookup, run_underlying ht, MapKept.run_getObj_map hb, K.check w _ hl, h1, h2, hz, Result.andThen]
  · cases c <;> simp [Instr.lookup, run_underlying ht, MapKept.run_getObj_map hb, K.check w _ hl, h1, h2, Result.andThen]
theorem set_put (m : List (κ × β)) (hn : (m.map (·.1)).Nodup) (x : κ) (y y0 : β) : ∀ (j : Nat), m[j]? = some (x, y0) → m.set j (x, y) = m.map (fun p => if p.1 = x then (x, y) else p) := by
  induction m with
  | nil => intro j hj; cases hj
  | cons q m ih =>
    rw [List.map_cons, List.nodup_cons] at hn
    intro j hj
    cases j with
    | zero =>
      have hq : q = (x, y0) := by simpa using hj
      subst hq
      have hm : m.map (fun p => if p.1 = x then (x, y) else p) = m := by
        conv => rhs; rw [← List.map_id m]
        apply List.map_congr_left
        intro p hp
        have hne : p.1 ≠ x := fun e => hn.1 (by
          have := List.mem_map_of_mem (f := (·.1)) hp
          rw [e] at this
          exact this)
        rw [if_neg hne]; rfl
      rw [List.set_cons_zero, List.map_cons, hm, if_pos rfl]
    | succ j =>
      have hj' : m[j]? = some (x, y0) := by simpa using hj
      have hne : q.1 ≠ x := fun e => hn.1 (by
        rw [e]
        have := List.mem_map_of_mem (f := (·.1)) (List.mem_of_getElem? hj')
        exact this)
      rw [List.set_cons_succ, List.map_cons, if_neg hne, ih hn.2 j hj']
theorem mput_keys (m : List (κ × β)) (x : κ) (y : β) : (mput m x y).map (·.1) = if (m.map (·.1)).contains x then m.map (·.1) else m.map (·.1) ++ [x] := by
  unfold mput
  split
  · rw [List.map_map]
    apply List.map_congr_left
    intro p _
    show (if p.1 = x then (x, y) else p).1 = p.1
    split
    · rename_i h; exact h.symm
    · rfl
  · rw [List.map_append]; rfl
theorem MapT.update {m : List (κ × β)} {b : Nat} {h : Heap} {t e : TypeId} {w0 w : World} {R : Heap} {L : List Heap} (K : Keyed P k) (inj : ∀ x y, ek x = ek y → x = y) (mt : MapT P k ek ev m b h) (ht : P.underlying t = some (.map k e)) (x : κ) (hx : ∃ l, keyOf P k (ek x) = some l) (y : β) (hw : H w0 R (h :: L) w) :
    ∃ w' h', (Instr.mapUpdate t (.map (some b)) (ek x) (ev y)).run P w = .ok () w' ∧ H w0 R (h' :: L) w' ∧ MapT P k ek ev (mput m x y) b h' := by
  obtain ⟨es, clock, he, hrow, hst⟩ := mt.row
  have hb : w.heap[b]? = some (.map ⟨es⟩ clock) := hw.rd (Rd.fr (by rw [he]; simp))
  have hlt : b < w.heap.size := (Array.getElem?_eq_some_iff.1 hb).1
  obtain ⟨l, hl⟩ := hx
  have hkeys : ∀ p, p ∈ mput m x y → ∃ l, keyOf P k (ek p.1) = some l := fun p hp => by
    have hp1 : p.1 ∈ (mput m x y).map (·.1) := List.mem_map_of_mem hp
    rw [mput_keys] at hp1
    have hold : p.1 ∈ m.map (·.1) → ∃ l, keyOf P k (ek p.1) = some l := fun h => by
      obtain ⟨q, hq, hq1⟩ := List.mem_map.1 h
      rw [← hq1]; exact mt.keys q hq
    split at hp1
    · exact hold hp1
    · rcases List.mem_append.1 hp1 with h | h
      · exact hold h
      · rw [List.mem_singleton.1 h]; exact ⟨l, hl⟩
  have hnd : ((mput m x y).map (·.1)).Nodup := by
    rw [mput_keys]
    split
    · exact mt.nodup
    · rename_i hc
      have hc' : x ∉ m.map (·.1) := by simpa using hc
      rw [List.nodup_append]
      exact ⟨mt.nodup, by simp, fun a ha c hc2 => by rw [List.mem_singleton.1 hc2]; exact fun e => hc' (e ▸ ha)⟩
  have hwr : ∀ o', H w0 R ([(b, o')] :: L) { w with heap := w.heap.setIfInBounds b o' } := fun o' => by
    rw [he] at hw
    exact hw.write rfl rfl rfl (by simp) (by simp [hlt]) (fun j hj => by simp [Array.getElem?_setIfInBounds, Ne.symm hj])
  rcases mt.find K inj x ⟨l, hl⟩ he w with ⟨h1, h2⟩ | ⟨j, y0, h1, h2, h3⟩
  · refine ⟨_, _, by simp [Instr.mapUpdate, run_underlying ht, MapKept.run_getObj_map hb, K.check w _ hl, h1, MapKept.run_setObj_map _ hb, Result.andThen]; rfl, hwr _, ⟨es ++ [⟨ek x, ev y, clock⟩], clock + 1, by simp, ?_, ?_⟩, hkeys, hnd⟩
    rotate_left
    · have hk2 : ∀ z ∈ (⟨es⟩ : Array MapEntry).toList, z.key ≠ ek x := fun z hz e => by
        obtain ⟨j, hj⟩ := List.getElem?_of_mem hz
        have h4 : (m.map (fun p => (ek p.1, ev p.2)))[j]? = some (z.key, z.val) := by rw [← hrow, List.getElem?_map]; rw [show es[j]? = some z from hj]; rfl
        rw [List.getElem?_map] at h4
        cases hm : m[j]? with
        | none => rw [hm] at h4; cases h4
        | some p =>
          rw [hm] at h4
          simp at h4
          have : p.1 = x := inj _ _ (h4.1.trans e)
          rw [← this, mget_of m mt.nodup p (List.mem_of_getElem? hm)] at h2
          cases h2
      have := MapKept.stamped_push hst (key := ek x) (val := ev y) hk2
      simpa using this
    have hc : (m.map (·.1)).contains x = false := by
      have : x ∉ m.map (·.1) := fun hmem => by
        obtain ⟨q, hq, hq1⟩ := List.mem_map.1 hmem
        rw [← hq1, mget_of m mt.nodup q hq] at h2
        cases h2
      simpa using this
    unfold mput
    rw [hc, if_neg (by decide), List.map_append, List.map_append, hrow]; rfl
  · have hjl : j < es.length := by
      have h4 : (m.map (fun p => (ek p.1, ev p.2)))[j]? = some (ek x, ev y0) := by rw [List.getElem?_map, h3]; rfl
      rw [← hrow, List.getElem?_map] at h4
      rcases Nat.lt_or_ge j es.length with h | h
      · exact h
      · rw [List.getElem?_eq_none h] at h4; cases h4
    have hkj : es[j].key = ek x := by
      have h4 : (m.map (fun p => (ek p.1, ev p.2)))[j]? = some (ek x, ev y0) := by rw [List.getElem?_map, h3]; rfl
      rw [← hrow, List.getElem?_map, List.getElem?_eq_getElem hjl] at h4
      simp at h4
      exact h4.1
    have hc : (m.map (·.1)).contains x = true := by
      have := List.mem_map_of_mem (f := (·.1)) (List.mem_of_getElem? h3)
      simpa using this
    refine ⟨_, _, by simp [Instr.mapUpdate, run_underlying ht, MapKept.run_getObj_map hb, K.check w _ hl, h1, hjl, hkj, K.stays w hl, MapKept.run_setObj_map _ hb, Result.andThen]; rfl, hwr _, ⟨es.modify j fun e => { e with key := ek x, val := ev y }, clock, by simp, ?_, ?_⟩, hkeys, hnd⟩
    rotate_left
    · have := MapKept.stamped_modify hst j (fun e => { e with key := ek x, val := ev y }) (fun e _ => rfl) (fun e _ he2 => by
        have h5 : es[j]? = some e := by simpa using he2
        rw [List.getElem?_eq_getElem hjl] at h5
        have := Option.some.inj h5
        rw [← this]; exact hkj.symm)
      simpa using this
    unfold mput
    rw [hc, if_pos rfl, ← set_put m mt.nodup x y y0 j h3, List.map_set, ← hrow]
    apply List.ext_getElem?
    intro i
    rw [List.getElem?_map, List.getElem?_modify, List.getElem?_set, List.getElem?_map]
    by_cases hij : j = i
    · subst hij; simp [hjl]
    · simp [hij]
end
section
variable {P : Program} {n : Nat} {w0 : World} {R : Heap} {K0 : Exit → Fr → List Heap → Prop} {f : Fr} {L : List Heap} {l0 : List Oper} {rest : List (Nat × Oper)} {q : Nat}
variable {Γ : List (Nat × TI)} {d : Nat} {ty : TypeId} {pos : String} {aft : Array Edge} {g : Option (Nat × Bool)}
variable {κ β : Type} [DecidableEq κ] {kt e : TypeId} {ek : κ → Value} {ev : β → Value}
theorem J.lk {t : TypeId} {m x : Operand} {c : Bool} {mm : List (κ × β)} {b : Nat} {h : Heap} {a : κ} {z : Value} {s1 s2 b1 b2 : Nat} {z1 : Option Value} {de : TypeDesc} (K : Keyed P kt) (inj : ∀ x y, ek x = ek y → x = y) (mt : MapT P kt ek ev mm b h) (hr : RdH R L h) (hkey : ∃ l, keyOf P kt (ek a) = some l) (hΓ : Fits P Γ)
    (k : J P n w0 R l0 K0 rest (upd f d (if c then .tuple #[(match mget mm a with | some y => ev y | none => z), .bool (mget mm a).isSome] else (match mget mm a with | some y => ev y | none => z))) L)
    (hg : wantB n f l0 ⟨some d, .lookup t m x c, ty, pos, aft, g⟩ = true := by exact rfl) (hm : Cx.ev n f m = .map (some b) := by exact rfl) (hx : Cx.ev n f x = ek a := by exact rfl) (ht : look Γ t = some ⟨.map kt e, s1, z1, b1⟩ := by exact rfl) (he : look Γ e = some ⟨de, s2, some z, b2⟩ := by exact rfl) :
    J P n w0 R l0 K0 ((q + 1, ⟨some d, .lookup t m x c, ty, pos, aft, g⟩) :: rest) f L := by
  obtain ⟨_, ie, hie, _, hze, _⟩ := hΓ e _ he
  have hzr : ∀ w, (zeroValue e).run P w = .ok z w := fun w => by simp [zeroValue, typeInfo, hie, hze, go_sem]
  refine J.q hg (fun w hw => ?_) k
  have := mt.lookup K inj (hΓ t _ ht).1 a hkey w (hw.rdH hr) (hzr w) c
  simp only [execOp, hm, hx, Sem.run_bind]
  rw [this]
  rfl
theorem J.mup {t : TypeId} {m x v : Operand} {mm : List (κ × β)} {b : Nat} {h : Heap} {a : κ} (y : β) {s1 b1 : Nat} {z1 : Option Value} (K : Keyed P kt) (inj : ∀ x y, ek x = ek y → x = y) (mt : MapT P kt ek ev mm b h) (hkey : ∃ l, keyOf P kt (ek a) = some l) (hΓ : Fits P Γ)
    (k : ∀ h', MapT P kt ek ev (mput mm a y) b h' → J P n w0 R l0 K0 rest f (h' :: L))
    (hg : wantB n f l0 ⟨none, .mapUpdate t m x v, ty, pos, aft, g⟩ = true := by exact rfl) (hm : Cx.ev n f m = .map (some b) := by exact rfl) (hx : Cx.ev n f x = ek a := by exact rfl) (hv : Cx.ev n f v = ev y := by exact rfl) (ht : look Γ t = some ⟨.map kt e, s1, z1, b1⟩ := by exact rfl) :
    J P n w0 R l0 K0 ((2, ⟨none, .mapUpdate t m x v, ty, pos, aft, g⟩) :: rest) f (h :: L) := fun ac ha w hC => by
  have hw : Region.wanted (⟨none, .mapUpdate t m x v, ty, pos, aft, g⟩ : Oper) (yielded l0.toArray ac.tmps) = true := by rw [ha.wanted, hg]
  obtain ⟨w', h', hrun, hH, mt'⟩ := mt.update K inj (hΓ t _ ht).1 a hkey y hC
  unfold lop
  rw [if_pos hw]
  unfold Oper.wp
  rw [ha.eval]
  simp only [execOp, hm, hx, hv, Sem.run_bind, hrun]
  exact ⟨_, fun h => absurd rfl h, hH, k h' mt' _ (ha.put none undef)⟩
omit [DecidableEq κ] in
theorem MapT.nil (b : Nat) : MapT P kt ek ev ([] : List (κ × β)) b [(b, .map ⟨[]⟩ 0)] := ⟨⟨[], 0, rfl, rfl, MapKept.stamped_empty 0⟩, fun p hp => (by cases hp), List.nodup_nil⟩
theorem J.mkm {t : TypeId} (k : ∀ b, J P n w0 R l0 K0 rest (upd f d (.map (some b))) ([(b, .map ⟨[]⟩ 0)] :: L)) (hg : wantB n f l0 ⟨some d, .makeMap t none, ty, pos, aft, g⟩ = true := by exact rfl) :
    J P n w0 R l0 K0 ((q + 2, ⟨some d, .makeMap t none, ty, pos, aft, g⟩) :: rest) f L :=
  J.vg (Φ := fun v h => ∃ b, v = .map (some b) ∧ h = [(b, .map ⟨[]⟩ 0)]) hg
    (fun w hw => ⟨.map (some w.heap.size), _, _, by simp only [execOp, Sem.run_bind, Option.map_none]; rw [run_makeMap]; rfl, hw.alloc _, w.heap.size, rfl, rfl⟩)
    (fun v L' ⟨b, h1, h2⟩ => by subst h1; subst h2; exact k b)
omit [DecidableEq κ] in
end
end Go.Cx
namespace Go.Cx
open Go Go.RowKit Go.Maps
set_option linter.unusedVariables false
set_option linter.unusedSimpArgs false
section
variable {P : Program} {n : Nat} {w0 : World} {R : Heap} {K0 : Exit → Fr → List Heap → Prop} {f : Fr} {L : List Heap} {l0 : List Oper} {rest : List (Nat × Oper)} {q : Nat}
variable {Γ : List (Nat × TI)} {d : Nat} {ty : TypeId} {pos : String} {aft : Array Edge} {g : Option (Nat × Bool)}
variable {κ β : Type} [DecidableEq κ] {kt e : TypeId} {ek : κ → Value} {ev : β → Value}
theorem J.ins {t : TypeId} {m x v : Operand} {mm : List (κ × β)} {b : Nat} {h : Heap} {a : κ} (y : β) {s1 b1 : Nat} {z1 : Option Value} (K : Keyed P kt) (inj : ∀ x y, ek x = ek y → x = y) (mt : MapT P kt ek ev mm b h) (hkey : ∃ l, keyOf P kt (ek a) = some l) (hΓ : Fits P Γ)
    (k : ∀ h', MapT P kt ek ev (mput mm a y) b h' → J P n w0 R l0 K0 rest f (h' :: L))
    (hg : wantB n f l0 ⟨none, .insert t m x v, ty, pos, aft, g⟩ = true := by exact rfl) (hm : Cx.ev n f m = .map (some b) := by exact rfl) (hx : Cx.ev n f x = ek a := by exact rfl) (hv : Cx.ev n f v = ev y := by exact rfl) (ht : look Γ t = some ⟨.map kt e, s1, z1, b1⟩ := by exact rfl) :
    J P n w0 R l0 K0 ((2, ⟨none, .insert t m x v, ty, pos, aft, g⟩) :: rest) f (h :: L) := fun ac ha w hC => by
  have hw : Region.wanted (⟨none, .insert t m x v, ty, pos, aft, g⟩ : Oper) (yielded l0.toArray ac.tmps) = true := by rw [ha.wanted, hg]
  obtain ⟨w', h', hrun, hH, mt'⟩ := mt.update K inj (hΓ t _ ht).1 a hkey y hC
  unfold lop
  rw [if_pos hw]
  unfold Oper.wp
  rw [ha.eval]
  simp only [execOp, hm, hx, hv, Sem.run_bind, hrun]
  exact ⟨_, fun h => absurd rfl h, hH, k h' mt' _ (ha.put none undef)⟩
omit [DecidableEq κ] in
end
section
variable {P : Program} {n : Nat} {w0 : World} {R : Heap} {l0 : List Oper} {K : Exit → Fr → List Heap → Prop} {f : Fr} {L : List Heap} {rest : List (Nat × Oper)} {κ : Nat}
variable {Γ : List (Nat × TI)} {d : Nat} {ty : TypeId} {pos : String} {aft : Array Edge} {g : Option (Nat × Bool)}
theorem J.mfV {fn : Fn} {cs : List Operand} (vs : List Value) (hΓ : Fits P Γ) (k : J P n w0 R l0 K rest (upd f d (.func fn ⟨[]⟩ ⟨vs⟩)) L) (hg : wantB n f l0 ⟨some d, .makeFunc fn ⟨[]⟩ ⟨cs⟩, ty, pos, aft, g⟩ = true := by exact rfl) (hv : cs.map (Cx.ev n f) = vs := by exact rfl) : J P n w0 R l0 K ((κ, ⟨some d, .makeFunc fn ⟨[]⟩ ⟨cs⟩, ty, pos, aft, g⟩) :: rest) f L := by
  subst hv
  exact J.mf hΓ k hg
end
section
variable {P : Program} {n : Nat} {w0 : World} {R : Heap} {K : Exit → Fr → List Heap → Prop} {f : Fr} {L L' : List Heap}
theorem JC.weak {c : Code} (e : ∀ w, H w0 R L w → H w0 R L' w) (k : JC P n w0 R c K f L') : JC P n w0 R c K f L := fun a w ha hw => k a w ha (e w hw)
theorem JC.loopG {c : Code} (ws : Nat → Bool) (I : Nat → Fr → List Heap → Prop) (m0 : Nat) (h0 : I m0 f L)
    (round : ∀ m g L', I m g L' → JC P n w0 R c (loopK ws f (fun m g L => ∃ L2, I m g L2 ∧ ∀ w, H w0 R L w → H w0 R L2 w) m K) (havoc ws f g) L') : JC P n w0 R (.loop c) K f L :=
  JC.loop ws (fun m g L => ∃ L2, I m g L2 ∧ ∀ w, H w0 R L w → H w0 R L2 w) m0 ⟨L, h0, fun _ h => h⟩ (fun m g L' ⟨L2, hI, hL⟩ => JC.weak hL (round m g L2 hI))
end
end Go.Cx
namespace Go.Cx
open Go Go.RowKit
set_option linter.unusedVariables false
def selF (l : List Heap) : List Nat → List Heap
  | [] => []
  | i :: f => l.getD i [] :: selF l f
theorem selF_mem (l : List Heap) (x : Heap) : ∀ f : List Nat, x ∈ selF l f → ∃ i, i ∈ f ∧ x = l.getD i []
  | [], h => by cases h
  | i :: f, h => by
    rcases List.mem_cons.1 h with rfl | h
    · exact ⟨i, List.mem_cons_self, rfl⟩
    · obtain ⟨j, hj, e⟩ := selF_mem l x f h
      exact ⟨j, List.mem_cons_of_mem _ hj, e⟩
def apart (a b : Heap) : Prop := ∀ x, x ∈ a.map (·.1) → ∀ y, y ∈ b.map (·.1) → x ≠ y
theorem apart.symm {a b : Heap} (h : apart a b) : apart b a := fun x hx y hy e => h y hy x hx e.symm
theorem nodup_frags (L : List Heap) : (L.flatten.map (·.1)).Nodup ↔ (∀ a, a ∈ L → (a.map (·.1)).Nodup) ∧ L.Pairwise apart := by
  rw [List.map_flatten]
  unfold List.Nodup
  rw [List.pairwise_flatten]
  constructor
  · rintro ⟨h1, h2⟩
    have h3 := List.pairwise_map.1 h2
    exact ⟨fun a ha => h1 _ (List.mem_map_of_mem ha), h3⟩
  · rintro ⟨h1, h2⟩
    have h3 : (L.map (List.map (·.1))).Pairwise (fun l₁ l₂ => ∀ (x : Nat), x ∈ l₁ → ∀ (y : Nat), y ∈ l₂ → x ≠ y) := List.pairwise_map.2 h2
    refine ⟨fun a ha => ?_, h3⟩
    obtain ⟨b, hb, rfl⟩ := List.mem_map.1 ha
    exact h1 b hb
theorem getD_in (l : List Heap) (i : Nat) (hi : i < l.length) : l.getD i [] ∈ l := by
  rw [List.getD_eq_getElem?_getD, List.getElem?_eq_getElem hi]
  exact List.getElem_mem hi
theorem selF_apart (l : List Heap) (hp : l.Pairwise apart) : ∀ f : List Nat, f.Nodup → (∀ i, i ∈ f → i < l.length) → (selF l f).Pairwise apart
  | [], _, _ => List.Pairwise.nil
  | i :: f, hn, hb => by
    rw [List.nodup_cons] at hn
    refine List.pairwise_cons.2 ⟨fun x hx => ?_, selF_apart l hp f hn.2 fun j hj => hb j (List.mem_cons_of_mem _ hj)⟩
    obtain ⟨j, hj, rfl⟩ := selF_mem l x f hx
    have hi := hb i List.mem_cons_self
    have hj2 := hb j (List.mem_cons_of_mem _ hj)
    have hne : i ≠ j := fun e => hn.1 (e ▸ hj)
    rw [List.getD_eq_getElem?_getD, List.getElem?_eq_getElem hi, List.getD_eq_getElem?_getD, List.getElem?_eq_getElem hj2]
    rcases Nat.lt_or_gt_of_ne hne with h | h
    · exact List.pairwise_iff_getElem.1 hp i j hi hj2 h
    · exact (List.pairwise_iff_getElem.1 hp j i hj2 hi h).symm
theorem H.sel {w0 w : World} {R : Heap} {l M : List Heap} (h : H w0 R (l ++ M) w) (f : List Nat) (hn : f.Nodup := by decide) (hb : (f.all fun i => decide (i < l.length)) = true := by rfl) : H w0 R (selF l f ++ M) w := by
  have hb' : ∀ i, i ∈ f → i < l.length := fun i hi => by simpa using List.all_eq_true.1 hb i hi
  have hs : ∀ a, a ∈ selF l f ++ M → a ∈ l ++ M := fun a ha => by
    rcases List.mem_append.1 ha with ha | ha
    · obtain ⟨i, hi, rfl⟩ := selF_mem l a f ha
      exact List.mem_append_left _ (getD_in l i (hb' i hi))
    · exact List.mem_append_right _ ha
  have hx : ∀ x, x ∈ (selF l f ++ M).flatten → x ∈ (l ++ M).flatten := fun x hx => by
    obtain ⟨a, ha, hxa⟩ := List.mem_flatten.1 hx
    exact List.mem_flatten.2 ⟨a, hs a ha, hxa⟩
  refine ⟨h.below, h.old, fun x hx' => h.own x (hx x hx'), fun x hx' => h.new x (hx x hx'), ?_⟩
  obtain ⟨h1, h2⟩ := (nodup_frags _).1 h.nodup
  refine (nodup_frags _).2 ⟨fun a ha => h1 a (hs a ha), ?_⟩
  rw [List.pairwise_append] at h2 ⊢
  refine ⟨selF_apart l h2.1 f hn hb', h2.2.1, fun a ha b hb => ?_⟩
  obtain ⟨i, hi, rfl⟩ := selF_mem l a f ha
  exact h2.2.2 _ (getD_in l i (hb' i hi)) b hb
section
variable {P : Program} {n : Nat} {w0 : World} {R : Heap} {L0 : List Heap} {l0 : List Oper} {K : Exit → Fr → List Heap → Prop} {f : Fr} {L : List Heap}
theorem Br.three {lo gr : List Nat} {m m1 m2 m3 c1 c2 c3 : Nat} {listed listed1 listed2 listed3 : Array Bool} {o1 o2 o3 : Oper} (k1 k2 k3 : Nat) (ps1 ps2 ps3 : List (Nat × Nat)) (hr : decide (Region.ready .any l0.toArray listed = [k1, k2, k3]) = true) (e1 : l0[k1]? = some o1) (e2 : l0[k2]? = some o2) (e3 : l0[k3]? = some o3)
    (hB1 : (Region.noSelect l0.toArray && hasN lo k1 && (hasN gr k1 == Nat.beq c1 1) && Nat.ble c1 1 && Nat.beq (ps1.length + 1 + m1) m && ps1.all (fun p => Nat.blt p.2 l0.length) && lexE .any l0.toArray lo gr ps1 (listed.setIfInBounds k1 true)) = true) (hl1 : setAll ps1 (listed.setIfInBounds k1 true) = listed1)
    (hB2 : (Region.noSelect l0.toArray && hasN lo k2 && (hasN gr k2 == Nat.beq c2 1) && Nat.ble c2 1 && Nat.beq (ps2.length + 1 + m2) m && ps2.all (fun p => Nat.blt p.2 l0.length) && lexE .any l0.toArray lo gr ps2 (listed.setIfInBounds k2 true)) = true) (hl2 : setAll ps2 (listed.setIfInBounds k2 true) = listed2)
    (hB3 : (Region.noSelect l0.toArray && hasN lo k3 && (hasN gr k3 == Nat.beq c3 1) && Nat.ble c3 1 && Nat.beq (ps3.length + 1 + m3) m && ps3.all (fun p => Nat.blt p.2 l0.length) && lexE .any l0.toArray lo gr ps3 (listed.setIfInBounds k3 true)) = true) (hl3 : setAll ps3 (listed.setIfInBounds k3 true) = listed3)
    (h1 : JE P n w0 R L0 l0 (brK P n w0 R L0 lo gr l0 K m1 listed1) ((c1 + 2, o1) :: picks l0 ps1) f L) (h2 : JE P n w0 R L0 l0 (brK P n w0 R L0 lo gr l0 K m2 listed2) ((c2 + 2, o2) :: picks l0 ps2) f L) (h3 : JE P n w0 R L0 l0 (brK P n w0 R L0 lo gr l0 K m3 listed3) ((c3 + 2, o3) :: picks l0 ps3) f L) : Br P n w0 R L0 lo gr l0 K m listed f L := fun a w ha hw hc => by
  have hr' := of_decide_eq_true hr
  have hm : m = (m - 1) + 1 := by
    simp only [Bool.and_eq_true] at hB1
    have := Nat.eq_of_beq_eq_true hB1.1.1.2
    omega
  rw [hm]
  refine ⟨fun h => (by rw [hr'] at h; cases h), fun j hj => .inl ?_⟩
  have hj' := hj
  rw [hr'] at hj'
  rcases List.mem_cons.1 hj' with rfl | hj'
  · exact Br.step ps1 e1 hj hc hB1 hl1 h1 ha hw
  rcases List.mem_cons.1 hj' with rfl | hj'
  · exact Br.step ps2 e2 hj hc hB2 hl2 h2 ha hw
  · rw [List.mem_singleton] at hj'
    subst hj'
    exact Br.step ps3 e3 hj hc hB3 hl3 h3 ha hw
def midK (ws : Nat → Bool) (f0 : Fr) (Q : Fr → List Heap → Prop) : Exit → Fr → List Heap → Prop
  | .normal, f, L => Ag ws f0 f ∧ Q f L
  | _, _, _ => False
theorem midK.nn {ws : Nat → Bool} {f0 : Fr} {Q : Fr → List Heap → Prop} (ha : Ag ws f0 f) (h : Q f L) : midK ws f0 Q .normal f L := ⟨ha, h⟩
theorem JC.mid {c : Code} (ws : Nat → Bool) (Q : Fr → List Heap → Prop) (h1 : JC P n w0 R c (midK ws f Q) f L) (h2 : ∀ g L', Q g L' → K .normal (havoc ws f g) L') : JC P n w0 R c K f L :=
  JC.mono h1 fun e F L' h => by
    cases e with
    | normal =>
      have := h2 F L' h.2
      rw [h.1.eq] at this
      exact this
    | _ => exact h.elim
end
section
variable {P : Program} {n : Nat} {w0 : World} {R : Heap} {l0 : List Oper} {K : Exit → Fr → List Heap → Prop} {f : Fr} {L : List Heap} {rest : List (Nat × Oper)}
variable {Γ : List (Nat × TI)} {d : Nat} {ty : TypeId} {pos : String} {aft : Array Edge} {g : Option (Nat × Bool)}
variable {α : Type} {enc : α → List Value} {size : Nat} {e : TypeId} {a : Option Addr} {cap : Nat} {ts us : List α} {h : Heap}
theorem app_empty {w : World} (hΓ : Fits P Γ) {t ty' : TypeId} {s1 b1 b2 : Nat} {z1 : Option Value} {z : Value} {de : TypeDesc} {len c : Nat} {b : Option Addr} (ht : look Γ t = some ⟨.slice e, s1, z1, b1⟩) (he : look Γ e = some ⟨de, size, some z, b2⟩) (hc : len ≤ cap) :
    (Builtin.append_ #[t, t] ty' #[.slice a len cap, .slice b 0 c]).run P w = .ok (.slice a len cap) w := by
  have hu := (hΓ t _ ht).1
  have hsz := sizeOf_run hΓ he w
  unfold Builtin.append_
  cases a <;> cases b <;> simp [Sem.run_bind, run_underlying hu, hsz, Builtin.lenOf, Builtin.firstCells, loadCells, loadCellsFrom, storeCells, hc, Result.andThen, go_sem]
theorem J.apA {t : TypeId} {x y : Operand} {len m c : Nat} {b : Option Addr} {hs : Heap} {s1 b1 b2 : Nat} {z1 : Option Value} {z : Value} {zc : List Value} {de : TypeDesc} (hΓ : Fits P Γ) (ho : OwT enc size e a cap ts h) (hus : SlT enc size b us hs) (hr : RdH R (h :: L) hs)
    (k : ∀ a' cap' h', OwT enc size e a' cap' (ts ++ us) h' → J P n w0 R l0 K rest (upd f d (.slice a' (ts ++ us).length cap')) (h' :: L))
    (hg : wantB n f l0 ⟨some d, .call ⟨.builtin .append, ⟨[x, y]⟩, ⟨[t, t]⟩⟩, ty, pos, aft, g⟩ = true := by exact rfl)
    (hx : Cx.ev n f x = .slice a len cap := by exact rfl) (hy : Cx.ev n f y = .slice b m c := by exact rfl) (ht : look Γ t = some ⟨.slice e, s1, z1, b1⟩ := by exact rfl) (he : look Γ e = some ⟨de, size, some z, b2⟩ := by exact rfl) (hz : vcells z = some zc := by exact rfl) (hzl : Nat.beq zc.length size = true := by exact rfl)
    (hlen : ts.length = len := by first | rfl | assumption | omega) (hm : us.length = m := by first | rfl | assumption | omega) (h1 : ∀ t, ones (enc t) = true := by intro _; rfl) (hb : (len + m) * b2 ≤ 140737488355328 := by omega) (h63 : len + m ≤ 9223372036854775807 := by omega) :
    J P n w0 R l0 K ((2, ⟨some d, .call ⟨.builtin .append, ⟨[x, y]⟩, ⟨[t, t]⟩⟩, ty, pos, aft, g⟩) :: rest) f (h :: L) := by
  have hll : (ts ++ us).length = len + m := by rw [List.length_append, hlen, hm]
  rcases Nat.eq_zero_or_pos us.length with h0 | hpos
  · have hun : us = [] := List.eq_nil_of_length_eq_zero h0
    subst hun
    subst hm
    subst hlen
    have hcap : ts.length ≤ cap := by
      rcases ho.row with ⟨_, rfl, rfl, _⟩ | ⟨_, _, _, _, _, hc, _⟩
      · exact Nat.le_refl _
      · exact hc
    have k' := k a cap h (by rw [List.append_nil]; exact ho)
    rw [List.append_nil] at k'
    refine J.v (Φ := fun v L' => v = .slice a ts.length cap ∧ L' = h :: L) hg (fun w hw => ⟨_, _, w, ?_, hw, rfl, rfl⟩) (fun v L' ⟨e1, e2⟩ => by subst e1; subst e2; exact k')
    have h2 : (⟨[x, y]⟩ : Array Operand).map (Cx.ev n f) = #[.slice a ts.length cap, .slice b 0 c] := by simp [hx, hy]
    simp only [execOp, resolve, h2, Sem.run_bind, Sem.run_pure, Result.andThen_ok, invoke, builtin]
    rw [app_empty hΓ ht he hcap]
    rfl
  · refine J.appS hΓ hg hx hy ht he hz hzl ho hlen hus hm hr h1 (by omega) hb h63 (fun a' cap' h' o' => ?_)
    have := k a' cap' h' o'
    rw [hll] at this
    exact this
end
end Go.Cx
namespace Go.Proofs.Ytbhgahjeocnfcaa
open Go Go.Cx Go.RowKit
set_option linter.unusedVariables false
set_option linter.unusedSimpArgs false
set_option maxHeartbeats 4000000
attribute [local irreducible] J JC thenK blockK loopK drawK retK QW Qt pel List.set Calls
open Go.Maps
attribute [local irreducible] JE Br eK0 eK2 eK3 brK
def encI (k : Int) : List Value := [.int .i64 k]
def enc3 (x : N3) : List Value := [.int .i64 (x.p : Int), .int .i64 (x.l : Int), .int .i64 (x.h : Int)]
def ek3 (x : N3) : Value := .agg ⟨enc3 x⟩
def ekT (x : T3) : Value := .agg ⟨[.int .i64 (x.a : Int), .int .i64 (x.b : Int), .int .i64 (x.c : Int)]⟩
def evI (k : Nat) : Value := .int .i64 (k : Int)
theorem laidOutM : laidOutB Try.prog = true := by kernel_rfl
theorem k3 : Keyed Try.prog 107 := Keyed.of_law (deep_law_laid laidOutM (m := 3) (by omega) (by decide +kernel) (by kernel_rfl) (by rw [Try.underlying107]))
theorem kT : Keyed Try.prog 159 := Keyed.of_law (deep_law_laid laidOutM (m := 3) (by omega) (by decide +kernel) (by kernel_rfl) (by rw [Try.underlying159]))
theorem ek3_inj (a b : N3) (h : ek3 a = ek3 b) : a = b := by
  unfold ek3 enc3 at h
  injection h with h
  injection h with h
  injection h with h1 h2
  injection h2 with h3 h4
  injection h4 with h5 h6
  injection h1 with _ g1
  injection h3 with _ g2
  injection h5 with _ g3
  cases a; cases b
  simp only at g1 g2 g3
  rw [Int.ofNat_inj.1 g1, Int.ofNat_inj.1 g2, Int.ofNat_inj.1 g3]
theorem ekT_inj (a b : T3) (h : ekT a = ekT b) : a = b := by
  unfold ekT at h
  injection h with h
  injection h with h
  injection h with h1 h2
  injection h2 with h3 h4
  injection h4 with h5 h6
  injection h1 with _ g1
  injection h3 with _ g2
  injection h5 with _ g3
  cases a; cases b
  simp only at g1 g2 g3
  rw [Int.ofNat_inj.1 g1, Int.ofNat_inj.1 g2, Int.ofNat_inj.1 g3]
theorem kT_key (x : T3) (h : x.a ≤ 2000000000 ∧ x.b ≤ 2000000000 ∧ x.c ≤ 2000000000) : ∃ l, keyOf Try.prog 159 (ekT x) = some l := by
  obtain ⟨h1, h2, h3⟩ := h
  have u := Try.underlying159
  have u2 : Try.prog.underlying 3 = some (.int .i64) := Try.underlying3
  have hk : Try.prog.keyType 159 = true := by kernel_rfl
  have hf : (ekT x).formed Try.prog 159 = true := by
    unfold Value.formed ekT
    rw [u]
    kernel_rfl
  have hc : Try.prog.cellsOf 159 = 3 := by kernel_rfl
  have hc2 : Try.prog.cellsOf 3 = 1 := by kernel_rfl
  obtain ⟨d, hd⟩ : ∃ d, Try.prog.types.size = d + 1 := ⟨Try.prog.types.size - 1, by kernel_rfl⟩
  have wf : ∀ k : Nat, k ≤ 2000000000 → (Lit.int .i64 (k : Int)).wf = true := fun k hk => by
    simp only [Lit.wf, Bool.and_eq_true, decide_eq_true_eq]
    have e1 : IntKind.i64.min = -9223372036854775808 := rfl
    have e2 : IntKind.i64.max = 9223372036854775807 := rfl
    omega
  have g : ∀ x : Nat, x ≤ 2000000000 → Try.prog.keyLits (d + 1) 3 [.int .i64 (x : Int)] = some [.int .i64 (x : Int)] := fun x hx => by
    unfold Program.keyLits
    rw [u2]
    exact if_pos ⟨rfl, wf x hx⟩
  have g1 := g _ h1
  have g2 := g _ h2
  have g3 := g _ h3
  have hl : Try.prog.keyLits (Try.prog.types.size + 1) 159 (ekT x).cells.toList = some [.int .i64 (x.a : Int), .int .i64 (x.b : Int), .int .i64 (x.c : Int)] := by
    rw [hd]
    unfold Program.keyLits
    rw [u]
    have hcl : (ekT x).cells.toList = [.int .i64 (x.a : Int), .int .i64 (x.b : Int), .int .i64 (x.c : Int)] := rfl
    rw [hcl]
    dsimp only
    rw [if_pos (by rw [hc]; rfl)]
    rw [hc2, show List.range 3 = [0, 1, 2] from rfl]
    simp [List.mapM_cons, hc2, g1, g2, g3]
  unfold keyOf
  rw [u]
  refine ⟨.string (keyBytes [.int .i64 (x.a : Int), .int .i64 (x.b : Int), .int .i64 (x.c : Int)]), ?_⟩
  show (if (Try.prog.keyType 159 && (ekT x).formed Try.prog 159) = true then _ else none) = _
  rw [hk, hf, if_pos (by rfl), hl]
  rfl
theorem k3_key (x : N3) (h : x.p ≤ 2000000000 ∧ x.l ≤ 2000000000 ∧ x.h ≤ 2000000000) : ∃ l, keyOf Try.prog 107 (ek3 x) = some l := by
  obtain ⟨h1, h2, h3⟩ := h
  have u := Try.underlying107
  have u2 : Try.prog.underlying 3 = some (.int .i64) := Try.underlying3
  have hk : Try.prog.keyType 107 = true := by kernel_rfl
  have hf : (ek3 x).formed Try.prog 107 = true := by
    unfold Value.formed ek3
    rw [u]
    kernel_rfl
  have hc : Try.prog.cellsOf 107 = 3 := by kernel_rfl
  have hc2 : Try.prog.cellsOf 3 = 1 := by kernel_rfl
  obtain ⟨d, hd⟩ : ∃ d, Try.prog.types.size = d + 1 := ⟨Try.prog.types.size - 1, by kernel_rfl⟩
  have wf : ∀ k : Nat, k ≤ 2000000000 → (Lit.int .i64 (k : Int)).wf = true := fun k hk => by
    simp only [Lit.wf, Bool.and_eq_true, decide_eq_true_eq]
    have e1 : IntKind.i64.min = -9223372036854775808 := rfl
    have e2 : IntKind.i64.max = 9223372036854775807 := rfl
    omega
  have g : ∀ x : Nat, x ≤ 2000000000 → Try.prog.keyLits (d + 1) 3 [.int .i64 (x : Int)] = some [.int .i64 (x : Int)] := fun x hx => by
    unfold Program.keyLits
    rw [u2]
    exact if_pos ⟨rfl, wf x hx⟩
  have g1 := g _ h1
  have g2 := g _ h2
  have g3 := g _ h3
  have hl : Try.prog.keyLits (Try.prog.types.size + 1) 107 (ek3 x).cells.toList = some [.int .i64 (x.p : Int), .int .i64 (x.l : Int), .int .i64 (x.h : Int)] := by
    rw [hd]
    unfold Program.keyLits
    rw [u]
    have hcl : (ek3 x).cells.toList = [.int .i64 (x.p : Int), .int .i64 (x.l : Int), .int .i64 (x.h : Int)] := rfl
    rw [hcl]
    dsimp only
    rw [if_pos (by exact ⟨by rw [hc]; rfl, by decide +kernel⟩)]
    
    simp [List.mapM_cons, hc2, g1, g2, g3]
  unfold keyOf
  rw [u]
  refine ⟨.string (keyBytes [.int .i64 (x.p : Int), .int .i64 (x.l : Int), .int .i64 (x.h : Int)]), ?_⟩
  show (if (Try.prog.keyType 107 && (ek3 x).formed Try.prog 107) = true then _ else none) = _
  rw [hk, hf, if_pos (by rfl), hl]
  rfl
end Go.Proofs.Ytbhgahjeocnfcaa
namespace Go.Proofs.Ytbhgahjeocnfcaa
open Go Go.Cx Go.RowKit
set_option linter.unusedVariables false
set_option linter.unusedSimpArgs false
set_option maxHeartbeats 4000000
attribute [local irreducible] J JC thenK blockK loopK drawK retK QW Qt pel List.set Calls
open Go.Maps
attribute [local irreducible] JE Br eK0 eK2 eK3 brK
structure KS where
  ao : Option Addr
  no : Nat
  co : Nat
  bp : Nat
  bu : Nat
  bi : Nat
def stO (K : KS) (an : Option Addr) (len cn : Nat) : Obj := .cells ⟨[.slice K.ao K.no K.co, .map (some K.bp), .slice an len cn, .map (some K.bu), .map (some K.bi)]⟩ 104 (0, 0)
theorem ePart : Entr Try.prog 81 := Entr.of Try.func81 rfl rfl
theorem eAdd : Entr Try.prog 58 := Entr.of Try.func58 rfl rfl
theorem part_any (K : KS) (b : Nat) (an : Option Addr) (cn : Nat) (ns : List N3) (h : Heap) (hs : SlT enc3 3 an ns h) (hb : (b, stO K an ns.length cn) ∈ h) (a k : Nat) (hi : Bool) (ha : a < ns.length) (w : World) (hw : Holds h w) :
    Calls Try.prog 81 #[.pointer (some ⟨b, 0, none⟩), .int .i64 (a : Int), .int .i64 (k : Int), .bool hi] w fun e w' => e = .returned (.int .i64 (partN ns a k hi : Int)) ∧ Below w.heap.size w w' := by
  have q0 : ∀ L, RdH h L h := fun L => RdH.old fun _ hh => hh
  have rb : ∀ L, Rd h L b (stO K an ns.length cn) := fun L => Rd.old hb
  unfold stO at rb
  have hnd : ns.getD a default = nd ns a := rfl
  cases hi
  all_goals
    refine calls_of_JC (R := h) Try.func81 Try.ntmps81 rfl rfl (hw) ?_
    repeat' first
      | (refine J.isJ ?_; first | (first | (refine J.o 4 ?_; first | refine J.lR hΓ ?_ (hr := rb _) | (refine J.lT default hΓ ?_ (hs := hs) (hr := q0 _)))) | (first | (refine J.o 0 ?_; refine J.ev' hΓ ?_) | refine J.nil ?_ | (refine J.o 4 ?_; first | refine J.lT default hΓ ?_ | refine J.lR hΓ ?_) | (refine J.o 3 ?_; first | refine J.iJ hΓ ?_ | refine J.ev' hΓ ?_) | (refine J.o 5 ?_; first | refine J.t0 hΓ ?_) | (refine J.o 7 ?_; refine J.al hΓ (fun _ => ?_)) | (refine J.o 10 ?_; refine J.ev' hΓ ?_) | (refine J.o 11 ?_; refine J.ev' hΓ ?_)))
      | (first | refine JC.seq ?_ | refine JC.region ?_ | refine JC.block ?_ | refine JC.ret ?_ | refine JC.skip ?_ | refine thenK.nn ?_ | refine thenK.r ?_ | refine blockK.nn ?_ | refine blockK.r ?_ | refine JC.condT rfl ?_ | refine JC.condF rfl ?_ | (refine JC.cond rfl (fun hc => ?_) (fun hc => ?_) <;> ((try simp only [decide_eq_true_eq, decide_eq_false_iff_not, beq_iff_eq, beq_eq_false_iff_ne, bne_iff_ne, bne_eq_false_iff_eq, Bool.not_eq_true', Bool.not_eq_false', Bool.not_eq_true, Bool.not_eq_false] at hc) <;> first | (first | (exact absurd rfl hc) | (exfalso; omega) | (exact absurd (hc.symm.trans (by assumption : _ = false)) (by decide)) | (exact absurd (hc.symm.trans (by assumption : _ = true)) (by decide))) | skip)))
      | ((refine JC.drawN [] [] (by kernel_rfl) (by kernel_rfl) ?_))
      | fail
    all_goals first | (exfalso; omega) | skip
    all_goals (refine ret1f rfl rfl rfl (fun w1 hw => ⟨retI ?_, hw.below⟩))
    all_goals (clear hw; unfold partN; rw [← hnd])
    all_goals first | (rw [if_pos (by omega)]; done) | (rw [if_neg (by omega)]; rfl) | skip
structure SS where
  an : Option Addr
  cn : Nat
  ns : List N3
  hN : Heap
  u : List (N3 × Nat)
  hU : Heap
  m : List (T3 × Nat)
  hM : Heap
structure SOk (n : Nat) (K : KS) (s : SS) : Prop where
  n8 : n ≤ 128
  no : K.no = n
  wf : WF n s.ns
  sm : s.ns.length ≤ 1048576
  ow : OwT enc3 3 107 s.an s.cn s.ns s.hN
  um : MapT Try.prog 107 ek3 evI s.u K.bu s.hU
  uk : UOk s.ns s.u
  mm : MapT Try.prog 159 ekT evI s.m K.bi s.hM
  mo : MOk n s.ns s.m
def sF (K : KS) (b : Nat) (s : SS) : List Heap := [[(b, stO K s.an s.ns.length s.cn)], s.hN, s.hU, s.hM]
theorem mget_mem {κ β : Type} [DecidableEq κ] {m : List (κ × β)} {x : κ} {y : β} (h : mget m x = some y) : (x, y) ∈ m := by
  unfold mget at h
  cases hf : m.find? (fun p => decide (p.1 = x)) with
  | none => rw [hf] at h; cases h
  | some p =>
    rw [hf] at h
    have h1 := List.find?_some hf
    have h2 := List.mem_of_find?_eq_some hf
    obtain ⟨a, b⟩ := p
    injection h with h
    simp only [decide_eq_true_eq] at h1
    subst h1; subst h
    exact h2
theorem mget_out {κ β : Type} [DecidableEq κ] {m : List (κ × β)} {x : κ} (h : mget m x = none) : ∀ y, (x, y) ∉ m := fun y hy => by
  unfold mget at h
  rw [Option.map_eq_none_iff, List.find?_eq_none] at h
  have := h _ hy
  simp at this
theorem mput_new {κ β : Type} [DecidableEq κ] {m : List (κ × β)} {x : κ} (y : β) (h : ∀ y, (x, y) ∉ m) : mput m x y = m ++ [(x, y)] := by
  unfold mput
  rw [if_neg]
  intro hc
  rw [List.contains_iff_mem, List.mem_map] at hc
  obtain ⟨p, hp, rfl⟩ := hc
  exact h p.2 hp
structure Adds (n : Nat) (K : KS) (s s' : SS) (more y : Nat) : Prop where
  ok : SOk n K s'
  ext : Ext s.ns s'.ns
  le : s'.ns.length ≤ s.ns.length + more
  lt : y < s'.ns.length
theorem add_new {n : Nat} {K : KS} {s : SS} (so : SOk n K s) (x : N3) (hp : x.p < n) (hl : x.l < s.ns.length) (hh : x.h < s.ns.length) (hlp : x.p < (nd s.ns x.l).p) (hhp : x.p < (nd s.ns x.h).p) (hfull : s.ns.length < 1048576)
    {w0 w : World} {R : Heap} {L : List Heap} {b : Nat} (hw : H w0 R (sF K b s ++ L) w) :
    Calls Try.prog 58 #[.pointer (some ⟨b, 0, none⟩), ek3 x] w fun e w' => ∃ v L', e = .returned v ∧ H w0 R L' w' ∧ ∃ s' y, v = .int .i64 ((y : Nat) : Int) ∧ L' = sF K b s' ++ L ∧ Adds n K s s' 1 y ∧ (∀ a, fn n s'.ns y a = if a x.p then fn n s'.ns x.h a else fn n s'.ns x.l a) ∧ (s'.ns.length = s.ns.length ∨ y = s.ns.length) := by
  have hkey := k3_key x ⟨by have := so.n8; omega, by omega, by omega⟩
  unfold sF at hw ⊢
  simp only [List.cons_append, List.nil_append] at hw
  by_cases hlh : x.l = x.h
  ·
    refine calls_in Try.func58 Try.ntmps58 rfl rfl (hw) ?_
    unfold stO ek3 enc3
    repeat' first
      | (refine J.isJ ?_; first | (first | (refine J.o 4 ?_; first | refine J.e3 hΓ ?_)) | (first | (refine J.o 0 ?_; refine J.ev' hΓ ?_) | refine J.nil ?_ | (refine J.o 4 ?_; first | refine J.lR hΓ ?_) | (refine J.o 3 ?_; first | refine J.ev' hΓ ?_) | (refine J.o 1 ?_; first | refine J.sb ?_) | (refine J.o 5 ?_; first | refine J.t2 hΓ ?_) | (refine J.o 6 ?_; refine J.bx (fun _ => ?_)) | (refine J.o 9 ?_; refine J.bl hΓ (fun _ => ?_)) | (refine J.o 10 ?_; refine J.ev' hΓ ?_) | (refine J.o 11 ?_; refine J.ev' hΓ ?_)))
      | (first | refine JC.seq ?_ | refine JC.region ?_ | refine JC.ret ?_ | refine JC.skip ?_ | refine thenK.nn ?_ | refine thenK.r ?_ | refine JC.condT rfl ?_ | refine JC.condF rfl ?_ | (refine JC.cond rfl (fun hc => ?_) (fun hc => ?_) <;> ((try simp only [decide_eq_true_eq, decide_eq_false_iff_not, beq_iff_eq, beq_eq_false_iff_ne, bne_iff_ne, bne_eq_false_iff_eq, Bool.not_eq_true', Bool.not_eq_false', Bool.not_eq_true, Bool.not_eq_false] at hc) <;> first | (first | (exact absurd rfl hc) | (exfalso; omega) | (exact absurd (hc.symm.trans (by assumption : _ = false)) (by decide)) | (exact absurd (hc.symm.trans (by assumption : _ = true)) (by decide))) | skip)) | refine drawK.nn ?_)
      | (fail)
      | fail
    all_goals first | (exfalso; omega) | skip
    all_goals (refine ret1f rfl rfl rfl (fun w1 hw => ⟨_, _, rfl, hw.drop, s, x.l, rfl, rfl, ⟨so, Ext.refl _, by omega, hl⟩, (fun a => by rw [← hlh]; split <;> rfl), .inl rfl⟩))
  have hne : ¬ ((x.l : Int) = (x.h : Int)) := by omega
  cases hget : mget s.u x with
  | some i =>
    obtain ⟨h2, hi, hx⟩ := so.uk.only x i (mget_mem hget)
    have um := so.um
    refine calls_in Try.func58 Try.ntmps58 rfl rfl (hw) ?_
    unfold stO ek3 enc3
    repeat' first
      | (refine J.isJ ?_; first | (first | (refine J.o 4 ?_; first | refine J.e3 hΓ ?_) | (refine J.o 9 ?_; refine J.lk (a := x) k3 ek3_inj um (by first | exact RdH.hd | exact RdH.hd.tl | exact RdH.hd.tl.tl | exact RdH.hd.tl.tl.tl | exact RdH.hd.tl.tl.tl.tl | exact RdH.hd.tl.tl.tl.tl.tl | exact RdH.hd.tl.tl.tl.tl.tl.tl | exact RdH.hd.tl.tl.tl.tl.tl.tl.tl | exact RdH.old (fun _ hh => hh) | assumption) hkey hΓ ?_; rw [hget])) | (first | (refine J.o 0 ?_; refine J.ev' hΓ ?_) | refine J.nil ?_ | (refine J.o 4 ?_; first | refine J.lR hΓ ?_) | (refine J.o 3 ?_; first | refine J.ev' hΓ ?_) | (refine J.o 1 ?_; first | refine J.sb ?_) | (refine J.o 5 ?_; first | refine J.t2 hΓ ?_) | (refine J.o 6 ?_; refine J.bx (fun _ => ?_)) | (refine J.o 9 ?_; refine J.bl hΓ (fun _ => ?_)) | (refine J.o 10 ?_; refine J.ev' hΓ ?_) | (refine J.o 11 ?_; refine J.ev' hΓ ?_)))
      | (first | refine JC.seq ?_ | refine JC.region ?_ | refine JC.ret ?_ | refine JC.skip ?_ | refine thenK.nn ?_ | refine thenK.r ?_ | refine JC.condT rfl ?_ | refine JC.condF rfl ?_ | (refine JC.cond rfl (fun hc => ?_) (fun hc => ?_) <;> ((try simp only [decide_eq_true_eq, decide_eq_false_iff_not, beq_iff_eq, beq_eq_false_iff_ne, bne_iff_ne, bne_eq_false_iff_eq, Bool.not_eq_true', Bool.not_eq_false', Bool.not_eq_true, Bool.not_eq_false] at hc) <;> first | (first | (exact absurd rfl hc) | (exfalso; omega) | (exact absurd (hc.symm.trans (by assumption : _ = false)) (by decide)) | (exact absurd (hc.symm.trans (by assumption : _ = true)) (by decide))) | skip)) | refine drawK.nn ?_)
      | ((refine JC.drawO [(0,0),(0,1),(0,2),(1,3),(1,4),(1,5),(0,6),(0,7),(0,8),(0,9),(0,10)] (by kernel_rfl) (by kernel_rfl) ?_))
      | fail
    all_goals first | (exfalso; omega) | skip
    all_goals (refine ret1f rfl rfl rfl (fun w1 hw => ⟨_, _, rfl, hw.drop, s, i, rfl, rfl, ⟨so, Ext.refl _, by omega, hi⟩, (fun a => by rw [fn_node so.wf a h2 hi, hx]), .inl rfl⟩))
  | none =>
    have um := so.um
    have ow := so.ow
    have hout := mget_out hget
    have hl2 : (s.ns ++ [x]).length = s.ns.length + 1 := by simp
    have vq : Value.int .i64 (((s.ns.length + 1 : Nat) : Int) - 1) = evI s.ns.length := congrArg (Value.int .i64) (by omega)
    refine calls_in Try.func58 Try.ntmps58 rfl rfl (hw) ?_
    unfold stO ek3 enc3
    repeat' first
      | (refine J.isJ ?_; first | (first | (refine J.o 4 ?_; first | refine J.e3 hΓ ?_) | (refine J.o 9 ?_; refine J.lk (a := x) k3 ek3_inj um (by first | exact RdH.hd | exact RdH.hd.tl | exact RdH.hd.tl.tl | exact RdH.hd.tl.tl.tl | exact RdH.hd.tl.tl.tl.tl | exact RdH.hd.tl.tl.tl.tl.tl | exact RdH.hd.tl.tl.tl.tl.tl.tl | exact RdH.hd.tl.tl.tl.tl.tl.tl.tl | exact RdH.old (fun _ hh => hh) | assumption) hkey hΓ ?_; rw [hget]) | ((refine J.o 9 ?_; first | (first | (refine J.ap1 (enc := enc3) [x] hΓ (fun a2 c2 h2 o2 => ?_)) | (refine J.perm (br1.cons _) ?_; refine J.ap1 (enc := enc3) [x] hΓ (fun a2 c2 h2 o2 => ?_)) | (refine J.perm (br2.cons _) ?_; refine J.ap1 (enc := enc3) [x] hΓ (fun a2 c2 h2 o2 => ?_)) | (refine J.perm (br3.cons _) ?_; refine J.ap1 (enc := enc3) [x] hΓ (fun a2 c2 h2 o2 => ?_)) | (refine J.perm (br4.cons _) ?_; refine J.ap1 (enc := enc3) [x] hΓ (fun a2 c2 h2 o2 => ?_)) | (refine J.perm (br5.cons _) ?_; refine J.ap1 (enc := enc3) [x] hΓ (fun a2 c2 h2 o2 => ?_))) | (refine J.perm br1 ?_; first | (refine J.ap1 (enc := enc3) [x] hΓ (fun a2 c2 h2 o2 => ?_)) | (refine J.perm (br1.cons _) ?_; refine J.ap1 (enc := enc3) [x] hΓ (fun a2 c2 h2 o2 => ?_)) | (refine J.perm (br2.cons _) ?_; refine J.ap1 (enc := enc3) [x] hΓ (fun a2 c2 h2 o2 => ?_)) | (refine J.perm (br3.cons _) ?_; refine J.ap1 (enc := enc3) [x] hΓ (fun a2 c2 h2 o2 => ?_)) | (refine J.perm (br4.cons _) ?_; refine J.ap1 (enc := enc3) [x] hΓ (fun a2 c2 h2 o2 => ?_)) | (refine J.perm (br5.cons _) ?_; refine J.ap1 (enc := enc3) [x] hΓ (fun a2 c2 h2 o2 => ?_))) | (refine J.perm br2 ?_; first | (refine J.ap1 (enc := enc3) [x] hΓ (fun a2 c2 h2 o2 => ?_)) | (refine J.perm (br1.cons _) ?_; refine J.ap1 (enc := enc3) [x] hΓ (fun a2 c2 h2 o2 => ?_)) | (refine J.perm (br2.cons _) ?_; refine J.ap1 (enc := enc3) [x] hΓ (fun a2 c2 h2 o2 => ?_)) | (refine J.perm (br3.cons _) ?_; refine J.ap1 (enc := enc3) [x] hΓ (fun a2 c2 h2 o2 => ?_)) | (refine J.perm (br4.cons _) ?_; refine J.ap1 (enc := enc3) [x] hΓ (fun a2 c2 h2 o2 => ?_)) | (refine J.perm (br5.cons _) ?_; refine J.ap1 (enc := enc3) [x] hΓ (fun a2 c2 h2 o2 => ?_)))); rw [hl2]) | (refine J.o 9 ?_; refine J.perm br3 ?_; refine J.mup (a := x) (ev := evI) s.ns.length k3 ek3_inj um hkey hΓ (fun h3 mt3 => ?_) (hv := vq))) | (first | (refine J.o 0 ?_; refine J.ev' hΓ ?_) | refine J.nil ?_ | (refine J.o 4 ?_; first | refine J.lR hΓ ?_) | (refine J.o 3 ?_; first | refine J.ev' hΓ ?_) | (refine J.o 1 ?_; first | refine J.sb ?_) | (refine J.o 5 ?_; first | refine J.t2 hΓ ?_) | (refine J.o 6 ?_; refine J.bx (fun _ => ?_)) | (refine J.o 9 ?_; refine J.bl hΓ (fun _ => ?_)) | (refine J.o 10 ?_; refine J.ev' hΓ ?_) | (refine J.o 11 ?_; refine J.ev' hΓ ?_)))
      | (first | refine JC.seq ?_ | refine JC.region ?_ | refine JC.ret ?_ | refine JC.skip ?_ | refine thenK.nn ?_ | refine thenK.r ?_ | refine JC.condT rfl ?_ | refine JC.condF rfl ?_ | (refine JC.cond rfl (fun hc => ?_) (fun hc => ?_) <;> ((try simp only [decide_eq_true_eq, decide_eq_false_iff_not, beq_iff_eq, beq_eq_false_iff_ne, bne_iff_ne, bne_eq_false_iff_eq, Bool.not_eq_true', Bool.not_eq_false', Bool.not_eq_true, Bool.not_eq_false] at hc) <;> first | (first | (exact absurd rfl hc) | (exfalso; omega) | (exact absurd (hc.symm.trans (by assumption : _ = false)) (by decide)) | (exact absurd (hc.symm.trans (by assumption : _ = true)) (by decide))) | skip)) | refine drawK.nn ?_)
      | ((first | refine JC.drawO [(0,0),(0,1),(0,2),(0,3),(1,4),(1,5),(3,6),(2,7),(0,8),(0,9),(2,10)] (by decide +kernel) (by decide +kernel) ?_ | refine JC.drawO [(0,0),(0,1),(0,2),(1,3),(1,4),(0,5),(0,6),(0,7),(1,8),(0,9),(0,10),(2,11)] (by decide +kernel) (by decide +kernel) ?_ | refine JC.drawO [(0,0),(0,1),(0,2),(1,3),(1,4),(1,5),(0,6),(0,7),(0,8),(0,9),(0,10)] (by decide +kernel) (by decide +kernel) ?_))
      | fail
    all_goals first | (exfalso; omega) | skip
    have hwf := so.wf.add hp hl hh hlp hhp (fun e => hlh e) (fun i h2 hi he => hout i (he ▸ so.uk.all i h2 hi))
    have hext := Ext.app s.ns x
    all_goals (refine ret1f rfl rfl rfl (fun w1 hw => ⟨_, _, rfl, H.sel (l := [_, _, _, _, _]) (M := L) hw [3, 1, 0, 4], ⟨a2, c2, s.ns ++ [x], h2, s.u ++ [(x, s.ns.length)], h3, s.m, s.hM⟩, s.ns.length, vq, ?_, ⟨⟨so.n8, so.no, hwf, by show (s.ns ++ [x]).length ≤ _; omega, o2, mput_new (s.ns.length) hout ▸ mt3, ?_, so.mm, so.mo.ext so.wf hext⟩, hext, by show (s.ns ++ [x]).length ≤ _; omega, by show _ < (s.ns ++ [x]).length; omega⟩, (fun a => ?_), .inr rfl⟩))
    · simp only [hl2]; rfl
    · show UOk (s.ns ++ [x]) (s.u ++ [(x, s.ns.length)])
      refine ⟨fun i h2 hi => ?_, fun y i hy => ?_⟩
      · rcases Nat.lt_or_ge i s.ns.length with h | h
        · rw [nd_app s.ns x h]; exact List.mem_append_left _ (so.uk.all i h2 h)
        · obtain rfl : i = s.ns.length := by omega
          rw [nd_last]; exact List.mem_append_right _ List.mem_cons_self
      · rcases List.mem_append.1 hy with hy | hy
        · obtain ⟨h1, h2, h3⟩ := so.uk.only y i hy
          exact ⟨h1, by omega, by rw [nd_app s.ns x h2, h3]⟩
        · obtain ⟨rfl, rfl⟩ := Prod.mk.inj (List.mem_singleton.1 hy)
          exact ⟨so.wf.two, by omega, nd_last _ _⟩
    · have := fn_node hwf a (i := s.ns.length) so.wf.two (by omega)
      rw [nd_last] at this
      exact this
theorem add_any {n : Nat} {K : KS} {s : SS} (so : SOk n K s) (x : N3) (hp : x.p < n) (hl : x.l < s.ns.length) (hh : x.h < s.ns.length) (hlp : x.p < (nd s.ns x.l).p) (hhp : x.p < (nd s.ns x.h).p) (hfull : s.ns.length < 1048576)
    {w0 w : World} {R : Heap} {L : List Heap} {b : Nat} (hw : H w0 R (sF K b s ++ L) w) :
    Calls Try.prog 58 #[.pointer (some ⟨b, 0, none⟩), ek3 x] w fun e w' => ∃ v L', e = .returned v ∧ H w0 R L' w' ∧ ∃ s' y, v = .int .i64 ((y : Nat) : Int) ∧ L' = sF K b s' ++ L ∧ Adds n K s s' 1 y ∧ ∀ a, fn n s'.ns y a = if a x.p then fn n s'.ns x.h a else fn n s'.ns x.l a := by
  refine (add_new so x hp hl hh hlp hhp hfull hw).mono ?_
  rintro e w' ⟨v, L', h1, h2, s', y, h3, h4, h5, h6, _⟩
  exact ⟨v, L', h1, h2, s', y, h3, h4, h5, h6⟩
end Go.Proofs.Ytbhgahjeocnfcaa
