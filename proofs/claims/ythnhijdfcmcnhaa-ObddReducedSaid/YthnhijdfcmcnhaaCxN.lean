/-
  A region that draws its order, in which several loud operations may be ready at once: each way is walked.
-/
import Derived.Test.YthnhijdfcmcnhaaCxX
namespace Go.Cx
open Go Go.RowKit
set_option linter.unusedVariables false
set_option linter.unusedSimpArgs false
section
variable {P : Program} {ops : Array Oper} {md : Region.Mode} {Q Q' : Exit → Act → World → Prop}
theorem wp_Q {o : Oper} {a : Act} {w : World} {K : Act → World → Prop} (hp : ∀ c a w, ¬ Q' (.panic c) a w) (hl : ∀ a w, ¬ Q' .outgrown a w) (hh : o.wp P a w K Q') : o.wp P a w K Q := by
  unfold Oper.wp at *
  generalize (execOp a.eval o).run P w = r at *
  cases r with
  | ok n w' =>
    cases n <;> simp only [Oper.upon] at hh ⊢ <;>
      first
        | exact hh
        | exact Calls.mono hh (fun e w'' he => by cases e <;> first | exact he | exact absurd he (hp _ _ _) | (obtain ⟨a, w, h⟩ := he; exact absurd h (hl _ _)))
  | halt x w' => cases x <;> simp only [Oper.upon] at hh ⊢ <;> first | exact hh | exact absurd hh (hp _ _ _)
theorem lop_Q {o : Oper} {a : Act} {w : World} {K : Act → World → Prop} (hp : ∀ c a w, ¬ Q' (.panic c) a w) (hl : ∀ a w, ¬ Q' .outgrown a w) (hh : lop P ops Q' o K a w) : lop P ops Q o K a w := by
  unfold lop at *
  split
  · rename_i hw; rw [if_pos hw] at hh; exact wp_Q hp hl hh
  · rename_i hw; rw [if_neg hw] at hh; exact hh

/-- kinds as in LD; what stands behind a quiet one is asked for where some world is met -/
def LE (P : Program) (ops : Array Oper) (Q : Exit → Act → World → Prop) (D : World → Prop) : List (Nat × Oper) → Act → (World → Prop) → Prop
  | [], a, C => ∀ w, C w → Q .normal a w
  | (0, o) :: l, a, C => ∃ v, Yields P ops o v a ∧ ((∃ w, C w) → LE P ops Q D l (a.put o.dst v) C)
  | (1, o) :: l, a, C => ∃ v, YieldsIn P ops C o v a ∧ ((∃ w, C w) → LE P ops Q D l (a.put o.dst v) C)
  | (2, o) :: l, a, C => ∀ w, C w → lop P ops Q o (fun a' w' => ∃ C' : World → Prop, C' w' ∧ LE P ops Q D l a' C') a w
  | (3, o) :: l, a, C => ∀ w, C w → lop P ops Q o (fun a' w' => ∃ C' : World → Prop, (∀ w, C' w → D w) ∧ C' w' ∧ LE P ops Q D l a' C') a w
  | (_ + 4, o) :: l, a, C => isLd o.op = true ∧ (∀ w, C w → D w) ∧ ∃ v, YieldsIn P ops D o v a ∧ ((∃ w, C w) → LE P ops Q D l (a.put o.dst v) C)
def hasN (l : List Nat) (j : Nat) : Bool := l.any (Nat.beq j)
/-- the operations of a stretch, one behind the other, may be walked so -/
def lexE (md : Region.Mode) (ops : Array Oper) (lo gr : List Nat) : List (Nat × Nat) → Array Bool → Bool
  | [], listed => (Region.ready md ops listed).all (hasN lo)
  | (0, k) :: ks, listed => !hasN lo k && (Region.ready md ops listed).contains k && Region.free md ops listed k && lexE md ops lo gr ks (listed.setIfInBounds k true)
  | (1, k) :: ks, listed => !hasN lo k && (Region.ready md ops listed).contains k && Region.free md ops listed k && (lo.all fun j => listed.getD j true || waitsB md ops k ops.size j) && lexE md ops lo gr ks (listed.setIfInBounds k true)
  | (2, k) :: ks, listed => hasN lo k && !hasN gr k && decide (Region.ready md ops listed = [k]) && lexE md ops lo gr ks (listed.setIfInBounds k true)
  | (3, k) :: ks, listed => hasN lo k && decide (Region.ready md ops listed = [k]) && lexE md ops lo gr ks (listed.setIfInBounds k true)
  | (_ + 4, k) :: ks, listed => !hasN lo k && (Region.ready md ops listed).contains k && Region.free md ops listed k && (lo.all fun j => listed.getD j true || hasN gr j || waitsB md ops k ops.size j) && lexE md ops lo gr ks (listed.setIfInBounds k true)
def setAll : List (Nat × Nat) → Array Bool → Array Bool
  | [], l => l
  | (_, k) :: ks, l => setAll ks (l.setIfInBounds k true)

theorem hasN_mem {l : List Nat} {j : Nat} : hasN l j = true ↔ j ∈ l := by
  unfold hasN
  rw [List.any_eq_true]
  constructor
  · rintro ⟨x, hx, h⟩; rw [Nat.eq_of_beq_eq_true h]; exact hx
  · intro h; exact ⟨j, h, by simp⟩

theorem GD.single {D C : World → Prop} {lo gr : Nat → Bool} {m : Nat} {listed : Array Bool} {a : Act} (hne : ∃ w, C w) (hall : ∀ j ∈ Region.ready md ops listed, lo j = true) (h : ∀ w, C w → GD P md ops Q D lo gr (fun x => x = w) m listed a) : GD P md ops Q D lo gr C m listed a := by
  cases m with
  | zero =>
    obtain ⟨w, hw⟩ := hne
    exact ⟨(h w hw).1, fun w hw => (h w hw).2 w rfl⟩
  | succ m =>
    refine ⟨fun h0 w hw => (h w hw).1 h0 w rfl, fun j hj => .inl ⟨hall j hj, fun w hw => ?_⟩⟩
    rcases (h w hw).2 j hj with ⟨_, h1⟩ | ⟨h1, _⟩
    · exact h1 w rfl
    · rw [hall j hj] at h1; cases h1

theorem LE.gd {D : World → Prop} {lo gr : List Nat} (hs : Region.noSelect ops = true) (hQ : ∀ c a w, ¬ Q (.panic c) a w) (hQ' : ∀ c a w, ¬ Q' (.panic c) a w) (hO : ∀ a w, ¬ Q' .outgrown a w) (m : Nat) : ∀ (ps : List (Nat × Nat)) (l : List (Nat × Oper)) (listed : Array Bool) (a : Act) (C : World → Prop), Along ops ps l →
    Closed md ops listed → lexE md ops lo gr ps listed = true → (∃ w, C w) → (∀ a w, Q' .normal a w → Closed md ops (setAll ps listed) → GD P md ops Q D (hasN lo) (hasN gr) (fun x => x = w) m (setAll ps listed) a) → LE P ops Q' D l a C → GD P md ops Q D (hasN lo) (hasN gr) C (l.length + m) listed a
  | [], [], listed, a, C, _, inv, hB, hne, hend, h => by
    simp only [lexE, List.all_eq_true] at hB
    have := GD.single (P := P) (Q := Q) (D := D) (gr := hasN gr) hne hB (fun w hw => hend a w (h w hw) inv)
    simpa using this
  | [], _ :: _, _, _, _, hlen, _, _, _, _, _ => hlen.elim
  | _ :: _, [], _, _, _, hlen, _, _, _, _, _ => hlen.elim
  | (c, k) :: ks, (c', o) :: l, listed, a, C, ⟨h0, hcc, hl⟩, inv, hB, hne, hend, h => by
    subst hcc
    have hlen : ((c, o) :: l).length + m = (l.length + m) + 1 := by simp only [List.length_cons]; omega
    rw [hlen]
    match c, hB, h with
    | 0, hB, h =>
      simp only [lexE, Bool.and_eq_true, Bool.not_eq_true'] at hB
      obtain ⟨⟨⟨hlk, hr⟩, hf⟩, hB'⟩ := hB
      have hr' : k ∈ Region.ready md ops listed := by simpa using hr
      obtain ⟨v, hy, hk⟩ := h
      have hyi : YieldsIn P ops C o v a := by
        rcases hy with ⟨h1, h2⟩ | h1
        · exact .inl ⟨h1, fun w _ => by unfold Oper.quietAt; rw [h2 w]; exact ⟨rfl, rfl⟩⟩
        · exact .inr h1
      exact GD.first h0 (Region.noSelect_spec hs) hQ hlk (l.length + m) C listed a inv (Region.free_spec h0 hf) hr' hyi (.inl hy) (LE.gd hs hQ hQ' hO m ks l _ _ C hl (inv.set hr') hB' hne hend (hk hne))
    | 1, hB, h =>
      simp only [lexE, Bool.and_eq_true, Bool.not_eq_true'] at hB
      obtain ⟨⟨⟨⟨hlk, hr⟩, hf⟩, hw⟩, hB'⟩ := hB
      have hr' : k ∈ Region.ready md ops listed := by simpa using hr
      obtain ⟨v, hy, hk⟩ := h
      refine GD.first h0 (Region.noSelect_spec hs) hQ hlk (l.length + m) C listed a inv (Region.free_spec h0 hf) hr' hy (.inr (.inl fun j hj hun => ⟨ops.size, ?_⟩)) (LE.gd hs hQ hQ' hO m ks l _ _ C hl (inv.set hr') hB' hne hend (hk hne))
      have := List.all_eq_true.1 hw j (hasN_mem.1 hj)
      simp only [Bool.or_eq_true] at this
      rcases this with h' | h'
      · rw [hun] at h'; cases h'
      · exact h'
    | 2, hB, h =>
      simp only [lexE, Bool.and_eq_true, Bool.not_eq_true', decide_eq_true_eq] at hB
      obtain ⟨⟨⟨hlk, hgk⟩, hr⟩, hB'⟩ := hB
      have hr' : k ∈ Region.ready md ops listed := by rw [hr]; simp
      exact loud_step hlk hr h0 (fun w hC => lop_Q hQ' hO (lop_mono (fun a' w' ⟨C', hC', hk⟩ => ⟨C', fun hg => (by rw [hgk] at hg; cases hg), hC', LE.gd hs hQ hQ' hO m ks l _ _ C' hl (inv.set hr') hB' ⟨w', hC'⟩ hend hk⟩) (h w hC)))
    | 3, hB, h =>
      simp only [lexE, Bool.and_eq_true, Bool.not_eq_true', decide_eq_true_eq] at hB
      obtain ⟨⟨hlk, hr⟩, hB'⟩ := hB
      have hr' : k ∈ Region.ready md ops listed := by rw [hr]; simp
      exact loud_step hlk hr h0 (fun w hC => lop_Q hQ' hO (lop_mono (fun a' w' ⟨C', hD, hC', hk⟩ => ⟨C', fun _ => hD, hC', LE.gd hs hQ hQ' hO m ks l _ _ C' hl (inv.set hr') hB' ⟨w', hC'⟩ hend hk⟩) (h w hC)))
    | c + 4, hB, h =>
      simp only [lexE, Bool.and_eq_true, Bool.not_eq_true'] at hB
      obtain ⟨⟨⟨⟨hlk, hr⟩, hf⟩, hw⟩, hB'⟩ := hB
      have hr' : k ∈ Region.ready md ops listed := by simpa using hr
      obtain ⟨hld, hsub, v, hy, hk⟩ := h
      have hyi : YieldsIn P ops C o v a := by
        rcases hy with ⟨h1, h2⟩ | h1
        · exact .inl ⟨h1, fun w hw => by
            have h3 := yieldsIn_ld (C := D) hld (.inl ⟨h1, h2⟩)
            rcases h3 with ⟨_, h4⟩ | h4
            · unfold Oper.quietAt; rw [h4 w (hsub w hw)]; exact ⟨rfl, rfl⟩
            · rw [h1] at h4; simp at h4⟩
        · exact .inr h1
      refine GD.first h0 (Region.noSelect_spec hs) hQ hlk (l.length + m) C listed a inv (Region.free_spec h0 hf) hr' hyi (.inr (.inr ⟨yieldsIn_ld hld hy, fun j hj hun => ?_⟩)) (LE.gd hs hQ hQ' hO m ks l _ _ C hl (inv.set hr') hB' hne hend (hk hne))
      have := List.all_eq_true.1 hw j (hasN_mem.1 hj)
      simp only [Bool.or_eq_true] at this
      rcases this with (h' | h') | h'
      · rw [hun] at h'; cases h'
      · exact .inl h'
      · exact .inr ⟨ops.size, h'⟩
end
section
variable {P : Program} {n : Nat} {w0 : World} {R : Heap} {K : Exit → Fr → List Heap → Prop} {f : Fr} {L L0 : List Heap} {l0 : List Oper} {rest : List (Nat × Oper)} {o : Oper}
/-- Behind a stretch: whatever is ready is loud. -/
def Br (P : Program) (n : Nat) (w0 : World) (R : Heap) (L0 : List Heap) (lo gr : List Nat) (l0 : List Oper) (K : Exit → Fr → List Heap → Prop) (m : Nat) (listed : Array Bool) (f : Fr) (L : List Heap) : Prop :=
  ∀ a w, Rep n f a → H w0 R L w → Closed .any l0.toArray listed → GD P .any l0.toArray (QW n w0 R (drawK K)) (H w0 R L0) (hasN lo) (hasN gr) (fun x => x = w) m listed a
def brK (P : Program) (n : Nat) (w0 : World) (R : Heap) (L0 : List Heap) (lo gr : List Nat) (l0 : List Oper) (K : Exit → Fr → List Heap → Prop) (m : Nat) (listed : Array Bool) : Exit → Fr → List Heap → Prop
  | .normal, f, L => Br P n w0 R L0 lo gr l0 K m listed f L
  | _, _, _ => False
def JE (P : Program) (n : Nat) (w0 : World) (R : Heap) (L0 : List Heap) (l0 : List Oper) (K : Exit → Fr → List Heap → Prop) (l : List (Nat × Oper)) (f : Fr) (L : List Heap) : Prop :=
  ∀ a, Rep n f a → LE P l0.toArray (QW n w0 R K) (H w0 R L0) l a (H w0 R L)
theorem drawK_no {e : Exit} (he : e ≠ .normal) {f : Fr} {L : List Heap} : ¬ drawK K e f L := fun h => by cases e <;> first | exact he rfl | exact h
theorem JC.drawE {id : Nat} {l : List Oper} (L0 : List Heap) (lo gr : List Nat) (ps : List (Nat × Nat)) (m : Nat) (listed : Array Bool) (hm : P.follows .mixedOrders = true)
    (hB : (Region.noSelect l.toArray && Nat.beq (ps.length + m) l.length && ps.all (fun p => Nat.blt p.2 l.length) && lexE .any l.toArray lo gr ps (Array.replicate l.length false)) = true) (hl : setAll ps (Array.replicate l.length false) = listed)
    (h : JE P n w0 R L0 l (brK P n w0 R L0 lo gr l K m listed) (picks l ps) f L) : JC P n w0 R (.region id l.toArray true) K f L := fun a w ha hw => by
  simp only [Bool.and_eq_true] at hB
  obtain ⟨⟨⟨hs, hlen⟩, hall⟩, hlex⟩ := hB
  have hlen' := Nat.eq_of_beq_eq_true hlen
  obtain ⟨hal, hpl⟩ := picks_along l ps hall
  refine wp_mono (Q := QW n w0 R (drawK K)) (wp_region_any hm ?_) (fun e a w q => q.mono fun e f L hk => by cases e <;> first | exact hk | exact hk.elim)
  have inv0 : Closed .any l.toArray (Array.replicate l.length false) := ⟨by simp, fun j oj _ hl => (by rw [show (Array.replicate l.length false).getD j false = false from by rcases Nat.lt_or_ge j l.length with h | h <;> simp_all] at hl; cases hl)⟩
  have hdr := hw.drew (w.drawn + 1)
  have := (LE.gd (md := .any) (Q := QW n w0 R (drawK K)) hs (fun c a w q => by obtain ⟨_, _, _, _, hk⟩ := q; exact hk) (fun c a w q => by obtain ⟨_, _, _, _, hk⟩ := q; exact hk) (fun a w q => q) m ps (picks l ps) _ a _ hal inv0 hlex ⟨_, hdr⟩
    (fun a w q hc => by rw [hl] at hc ⊢; obtain ⟨f', L', ha', hw', hk⟩ := q; exact hk a w ha' hw' hc) (h a ha)).any _ hdr
  rw [hpl, hlen'] at this
  simpa using this
/-- nothing is left -/
theorem Br.done {lo gr : List Nat} {m : Nat} {listed : Array Bool} (hr : (Region.ready .any l0.toArray listed).isEmpty = true) (h : K .normal f L) : Br P n w0 R L0 lo gr l0 K m listed f L := fun a w ha hw _ => by
  have hr' : Region.ready .any l0.toArray listed = [] := by simpa using hr
  have hq : ∀ w', w' = w → QW n w0 R (drawK K) .normal a w' := fun w' e => by subst e; exact ⟨f, L, ha, hw, h⟩
  cases m with
  | zero => exact ⟨hr', hq⟩
  | succ m => exact ⟨fun _ => hq, fun j hj => by rw [hr'] at hj; cases hj⟩
theorem Br.step {lo gr : List Nat} {m m' k c : Nat} {listed listed' : Array Bool} {o : Oper} (ps : List (Nat × Nat)) (h0 : l0[k]? = some o) (hk : k ∈ Region.ready .any l0.toArray listed) (hc : Closed .any l0.toArray listed)
    (hB : (Region.noSelect l0.toArray && hasN lo k && (hasN gr k == Nat.beq c 1) && Nat.ble c 1 && Nat.beq (ps.length + 1 + m') m && ps.all (fun p => Nat.blt p.2 l0.length) && lexE .any l0.toArray lo gr ps (listed.setIfInBounds k true)) = true) (hl : setAll ps (listed.setIfInBounds k true) = listed')
    (h : JE P n w0 R L0 l0 (brK P n w0 R L0 lo gr l0 K m' listed') ((c + 2, o) :: picks l0 ps) f L) {a : Act} {w : World} (ha : Rep n f a) (hw : H w0 R L w) :
    hasN lo k = true ∧ ∀ w', w' = w → wpOp P l0.toArray (QW n w0 R (drawK K)) k (fun a' w' => ∃ C' : World → Prop, (hasN gr k = true → ∀ w, C' w → H w0 R L0 w) ∧ C' w' ∧ GD P .any l0.toArray (QW n w0 R (drawK K)) (H w0 R L0) (hasN lo) (hasN gr) C' (m - 1) (listed.setIfInBounds k true) a') a w' := by
  simp only [Bool.and_eq_true] at hB
  obtain ⟨⟨⟨⟨⟨⟨hs, hlk⟩, hg⟩, hc1⟩, hlen⟩, hall⟩, hlex⟩ := hB
  have hlen' := Nat.eq_of_beq_eq_true hlen
  obtain ⟨hal, hpl⟩ := picks_along l0 ps hall
  refine ⟨hlk, fun w' e => ?_⟩
  subst e
  have hE := h a ha
  have h0' : l0.toArray[k]? = some o := by simpa using h0
  have fin : ∀ (a' : Act) (w' : World) (C' : World → Prop), C' w' → LE P l0.toArray (QW n w0 R (brK P n w0 R L0 lo gr l0 K m' listed')) (H w0 R L0) (picks l0 ps) a' C' → GD P .any l0.toArray (QW n w0 R (drawK K)) (H w0 R L0) (hasN lo) (hasN gr) C' (m - 1) (listed.setIfInBounds k true) a' := fun a' w' C' hC' hL => by
    have := LE.gd (md := .any) (Q := QW n w0 R (drawK K)) hs (fun c a w q => by obtain ⟨_, _, _, _, hk⟩ := q; exact hk) (fun c a w q => by obtain ⟨_, _, _, _, hk⟩ := q; exact hk) (fun a w q => q) m' ps (picks l0 ps) _ a' C' hal (hc.set hk) hlex ⟨_, hC'⟩
      (fun a w q hc => by rw [hl] at hc ⊢; obtain ⟨f', L', ha', hw', hk⟩ := q; exact hk a w ha' hw' hc) hL
    rw [hpl] at this
    have e1 : m - 1 = ps.length + m' := by omega
    rw [e1]; exact this
  have key : lop P l0.toArray (QW n w0 R (drawK K)) o (fun a' w' => ∃ C' : World → Prop, (hasN gr k = true → ∀ w, C' w → H w0 R L0 w) ∧ C' w' ∧ GD P .any l0.toArray (QW n w0 R (drawK K)) (H w0 R L0) (hasN lo) (hasN gr) C' (m - 1) (listed.setIfInBounds k true) a') a w' := by
    match c, hE, hg, hc1 with
    | 0, hE, hg, _ =>
      refine lop_Q (fun c a w q => by obtain ⟨_, _, _, _, hk⟩ := q; exact hk) (fun a w q => q) (lop_mono (fun a' w' ⟨C', hC', hk⟩ => ⟨C', fun hgr => ?_, hC', fin a' w' C' hC' hk⟩) (hE w' hw))
      rw [hgr] at hg; simp at hg
    | 1, hE, _, _ => exact lop_Q (fun c a w q => by obtain ⟨_, _, _, _, hk⟩ := q; exact hk) (fun a w q => q) (lop_mono (fun a' w' ⟨C', hD, hC', hk⟩ => ⟨C', fun _ => hD, hC', fin a' w' C' hC' hk⟩) (hE w' hw))
    | c + 2, _, _, hc1 => simp at hc1
  unfold wpOp
  simp only [h0']
  unfold lop at key
  split
  · rename_i hg; rw [if_pos hg] at key; exact .inl key
  · rename_i hg; rw [if_neg hg] at key; exact key
/-- two are ready -/
theorem Br.two {lo gr : List Nat} {m m1 m2 c1 c2 : Nat} {listed listed1 listed2 : Array Bool} {o1 o2 : Oper} (k1 k2 : Nat) (ps1 ps2 : List (Nat × Nat)) (hr : decide (Region.ready .any l0.toArray listed = [k1, k2]) = true) (e1 : l0[k1]? = some o1) (e2 : l0[k2]? = some o2)
    (hB1 : (Region.noSelect l0.toArray && hasN lo k1 && (hasN gr k1 == Nat.beq c1 1) && Nat.ble c1 1 && Nat.beq (ps1.length + 1 + m1) m && ps1.all (fun p => Nat.blt p.2 l0.length) && lexE .any l0.toArray lo gr ps1 (listed.setIfInBounds k1 true)) = true) (hl1 : setAll ps1 (listed.setIfInBounds k1 true) = listed1)
    (hB2 : (Region.noSelect l0.toArray && hasN lo k2 && (hasN gr k2 == Nat.beq c2 1) && Nat.ble c2 1 && Nat.beq (ps2.length + 1 + m2) m && ps2.all (fun p => Nat.blt p.2 l0.length) && lexE .any l0.toArray lo gr ps2 (listed.setIfInBounds k2 true)) = true) (hl2 : setAll ps2 (listed.setIfInBounds k2 true) = listed2)
    (h1 : JE P n w0 R L0 l0 (brK P n w0 R L0 lo gr l0 K m1 listed1) ((c1 + 2, o1) :: picks l0 ps1) f L) (h2 : JE P n w0 R L0 l0 (brK P n w0 R L0 lo gr l0 K m2 listed2) ((c2 + 2, o2) :: picks l0 ps2) f L) : Br P n w0 R L0 lo gr l0 K m listed f L := fun a w ha hw hc => by
  have hr' := of_decide_eq_true hr
  have hm : m = (m - 1) + 1 := by
    simp only [Bool.and_eq_true] at hB1
    have := Nat.eq_of_beq_eq_true hB1.1.1.2
    omega
  rw [hm]
  refine ⟨fun h => (by rw [hr'] at h; cases h), fun j hj => .inl ?_⟩
  have hj' := hj
  rw [hr'] at hj'
  rcases List.mem_cons.1 hj' with rfl | hj'
  · exact Br.step ps1 e1 hj hc hB1 hl1 h1 ha hw
  · rw [List.mem_singleton] at hj'
    subst hj'
    exact Br.step ps2 e2 hj hc hB2 hl2 h2 ha hw

/-! one step, by a rule of J -/
def eK0 (J0 : Fr → Prop) (L : List Heap) : Exit → Fr → List Heap → Prop
  | .normal, f, L' => L' = L ∧ J0 f
  | _, _, _ => False
def eK2 (J0 : Fr → List Heap → Prop) : Exit → Fr → List Heap → Prop
  | .normal, f, L' => J0 f L'
  | _, _, _ => False
def eK3 (w0 : World) (R : Heap) (L0 : List Heap) (J0 : Fr → List Heap → Prop) : Exit → Fr → List Heap → Prop
  | .normal, f, L' => (∀ w, H w0 R L' w → H w0 R L0 w) ∧ J0 f L'
  | _, _, _ => False
theorem JE.s0 (h : J P n w0 R l0 (eK0 (fun f' => JE P n w0 R L0 l0 K rest f' L) L) [(0, o)] f L) : JE P n w0 R L0 l0 K ((0, o) :: rest) f L := fun a ha => by
  obtain ⟨v, hy, hk⟩ := h a ha
  refine ⟨v, hy, fun ⟨w, hw⟩ => ?_⟩
  obtain ⟨f', L', ha', _, rfl, hj⟩ := hk w hw
  exact hj _ ha'
theorem JE.s1 (h : J P n w0 R l0 (eK0 (fun f' => JE P n w0 R L0 l0 K rest f' L) L) [(1, o)] f L) : JE P n w0 R L0 l0 K ((1, o) :: rest) f L := fun a ha => by
  obtain ⟨v, hy, hk⟩ := h a ha
  refine ⟨v, hy, fun ⟨w, hw⟩ => ?_⟩
  obtain ⟨f', L', ha', _, rfl, hj⟩ := hk w hw
  exact hj _ ha'
theorem JE.s4 (hld : isLd o.op = true) (hsub : ∀ w, H w0 R L w → H w0 R L0 w) (h : J P n w0 R l0 (eK0 (fun f' => JE P n w0 R L0 l0 K rest f' L) L0) [(1, o)] f L0) : JE P n w0 R L0 l0 K ((4, o) :: rest) f L := fun a ha => by
  obtain ⟨v, hy, hk⟩ := h a ha
  refine ⟨hld, hsub, v, hy, fun ⟨w, hw⟩ => ?_⟩
  obtain ⟨f', L', ha', _, _, hj⟩ := hk w (hsub w hw)
  exact hj _ ha'
theorem lop_no {o : Oper} {a : Act} {w : World} {Kk : Act → World → Prop} {Ka Kb : Exit → Fr → List Heap → Prop} (hk : ∀ c f L, ¬ Ka (.panic c) f L) (hh : lop P l0.toArray (QW n w0 R Ka) o Kk a w) : lop P l0.toArray (QW n w0 R Kb) o Kk a w :=
  lop_Q (fun c a w q => by obtain ⟨_, _, _, _, h⟩ := q; exact hk _ _ _ h) (fun a w q => q) hh
theorem JE.s2 (h : J P n w0 R l0 (eK2 (fun f' L' => JE P n w0 R L0 l0 K rest f' L')) [(2, o)] f L) : JE P n w0 R L0 l0 K ((2, o) :: rest) f L := fun a ha w hw => by
  refine lop_no (fun c f L h => h) (lop_mono ?_ (h a ha w hw))
  rintro a' w' ⟨C', _, hC', hk⟩
  obtain ⟨f', L', ha', hw', hj⟩ := hk w' hC'
  exact ⟨_, hw', hj _ ha'⟩
theorem JE.s3 (h : J P n w0 R l0 (eK3 w0 R L0 (fun f' L' => JE P n w0 R L0 l0 K rest f' L')) [(2, o)] f L) : JE P n w0 R L0 l0 K ((3, o) :: rest) f L := fun a ha w hw => by
  refine lop_no (fun c f L h => h) (lop_mono ?_ (h a ha w hw))
  rintro a' w' ⟨C', _, hC', hk⟩
  obtain ⟨f', L', ha', hw', hs, hj⟩ := hk w' hC'
  exact ⟨_, hs, hw', hj _ ha'⟩
theorem JE.is {l : List (Nat × Oper)} (h : JE P n w0 R L0 l0 K l f L) : JE P n w0 R L0 l0 K l f L := h
theorem JE.nil (h : K .normal f L) : JE P n w0 R L0 l0 K [] f L := fun _ ha _ hw => ⟨f, L, ha, hw, h⟩
theorem eK0.nn {J0 : Fr → Prop} (h : J0 f) : eK0 J0 L .normal f L := ⟨rfl, h⟩
theorem eK2.is {J0 : Fr → List Heap → Prop} {e : Exit} (h : eK2 J0 e f L) : eK2 J0 e f L := h
theorem eK2.nn {J0 : Fr → List Heap → Prop} (h : J0 f L) : eK2 J0 .normal f L := h
theorem eK3.nn {J0 : Fr → List Heap → Prop} (hs : ∀ w, H w0 R L w → H w0 R L0 w) (h : J0 f L) : eK3 w0 R L0 J0 .normal f L := ⟨hs, h⟩
theorem eK3.is {J0 : Fr → List Heap → Prop} {e : Exit} (h : eK3 w0 R L0 J0 e f L) : eK3 w0 R L0 J0 e f L := h
theorem brK.nn {lo gr : List Nat} {m : Nat} {listed : Array Bool} (h : Br P n w0 R L0 lo gr l0 K m listed f L) : brK P n w0 R L0 lo gr l0 K m listed .normal f L := h
end
end Go.Cx
