/-
  A region that draws its order, with calls that write what the later loads do not read.
-/
import Derived.Test.YthnhijdfcmcnhaaCxW
namespace Go.Cx
open Go Go.RowKit
set_option linter.unusedVariables false
set_option linter.unusedSimpArgs false
section
variable {P : Program} {ops : Array Oper} {md : Region.Mode} {Q : Exit → Act → World → Prop}
/-- Whatever order is picked from here on. 'loud': operations that change memory; 'gro': those of them that only make memory. -/
def GD (P : Program) (md : Region.Mode) (ops : Array Oper) (Q : Exit → Act → World → Prop) (D : World → Prop) (loud gro : Nat → Bool) : (World → Prop) → Nat → Array Bool → Act → Prop
  | C, 0, listed, a => Region.ready md ops listed = [] ∧ ∀ w, C w → Q .normal a w
  | C, fuel + 1, listed, a =>
    (Region.ready md ops listed = [] → ∀ w, C w → Q .normal a w) ∧
    ∀ j ∈ Region.ready md ops listed, (loud j = true ∧ ∀ w, C w → wpOp P ops Q j (fun a' w' => ∃ C' : World → Prop, (gro j = true → ∀ w, C' w → D w) ∧ C' w' ∧ GD P md ops Q D loud gro C' fuel (listed.setIfInBounds j true) a') a w) ∨
      (loud j = false ∧ ∃ oj v, ops[j]? = some oj ∧ YieldsIn P ops C oj v a ∧ GD P md ops Q D loud gro C fuel (listed.setIfInBounds j true) (a.put oj.dst v))

theorem GD.any {D : World → Prop} {loud gro : Nat → Bool} : ∀ {fuel : Nat} {C : World → Prop} {listed : Array Bool} {a : Act}, GD P md ops Q D loud gro C fuel listed a → ∀ w, C w → wpAny P md ops Q fuel listed a w
  | 0, C, _, _, h, w, hw => ⟨h.1, h.2 w hw⟩
  | fuel + 1, C, listed, a, h, w, hw => by
    refine ⟨fun h0 => h.1 h0 w hw, fun j hj => ?_⟩
    rcases h.2 j hj with ⟨_, h1⟩ | ⟨_, oj, v, ho, hy, hg⟩
    · exact wpOp_mono (fun a' w' ⟨C', _, hC', hk⟩ => hk.any w' hC') (h1 w hw)
    · exact wpOp_of_qOp (K := GD P md ops Q D loud gro C fuel (listed.setIfInBounds j true)) hw (fun a' w' hw' hk => hk.any w' hw') (hy.qOp ho hg)

theorem GD.first {D : World → Prop} {loud gro : Nat → Bool} {i : Nat} {oi : Oper} {v : Value} (hi : ops[i]? = some oi) (hsel : ∀ (j : Nat) (o : Oper) cs b, ops[j]? = some o → o.op ≠ .select cs b) (hQ : ∀ c a w, ¬ Q (.panic c) a w) (hil : loud i = false) :
    ∀ (fuel : Nat) (C : World → Prop) (listed : Array Bool) (a : Act), Closed md ops listed →
      (∀ j oj, ops[j]? = some oj → j ≠ i → listed.getD j true = false → (∀ e ∈ oj.after, Region.binds md e = true → e.on ≠ i) → oi.apart ops oj = true) →
      i ∈ Region.ready md ops listed → YieldsIn P ops C oi v a →
      (Yields P ops oi v a ∨ (∀ j, loud j = true → listed.getD j true = false → ∃ f, waitsB md ops i f j = true) ∨ (YieldsIf P ops D oi v a ∧ ∀ j, loud j = true → listed.getD j true = false → gro j = true ∨ ∃ f, waitsB md ops i f j = true)) →
      GD P md ops Q D loud gro C fuel (listed.setIfInBounds i true) (a.put oi.dst v) → GD P md ops Q D loud gro C (fuel + 1) listed a := by
  intro fuel
  induction fuel with
  | zero =>
    intro C listed a inv _ hr hy _ hg
    refine ⟨fun h => (by rw [h] at hr; cases hr), fun j hj => ?_⟩
    by_cases hji : j = i
    · subst hji; exact .inr ⟨hil, oi, v, hi, hy, hg⟩
    · have := ready_mono hj hji
      rw [hg.1] at this
      cases this
  | succ fuel ih =>
    intro C listed a inv hfree hr hy hp hg
    refine ⟨fun h => (by rw [h] at hr; cases hr), fun j hj => ?_⟩
    by_cases hji : j = i
    · subst hji; exact .inr ⟨hil, oi, v, hi, hy, hg⟩
    · obtain ⟨hjun, oj, hoj, hall⟩ := mem_ready.1 hj
      have hiun := (mem_ready.1 hr).1
      have hnot : ∀ e ∈ oj.after, Region.binds md e = true → e.on ≠ i := fun e he hb heq => by
        have h1 := hall e he hb
        rw [heq, getDb hiun] at h1
        cases h1
      have hap := hfree j oj hoj hji hjun hnot
      obtain ⟨h1, h2, h3⟩ := Oper.apart_spec hap
      have hfree' : ∀ k ok, ops[k]? = some ok → k ≠ i → (listed.setIfInBounds j true).getD k true = false →
          (∀ e ∈ ok.after, Region.binds md e = true → e.on ≠ i) → oi.apart ops ok = true := fun k ok hk hki hun hno => by
        refine hfree k ok hk hki ?_ hno
        by_cases hjk : j = k
        · subst hjk; exact hjun
        · rw [getD_set_ne true hjk] at hun; exact hun
      have hun' : ∀ k, (listed.setIfInBounds j true).getD k true = false → listed.getD k true = false := fun k hun => by
        by_cases hjk : j = k
        · subst hjk; exact hjun
        · rw [getD_set_ne true hjk] at hun; exact hun
      rcases hg.2 j (ready_mono hj hji) with ⟨hl, hw⟩ | ⟨hl, oj', u, hoj', hyj, hgj⟩
      · rcases hp with hp | hp | ⟨hp, hpg⟩
        · refine .inl ⟨hl, fun w hC => ?_⟩
          have h4 := wpOp_put hoj hap (fun cs b => hsel i oi cs b hi) (fun cs b => hsel j oj cs b hoj) (fun c a w h => absurd h (hQ c _ w)) hp (hw w hC)
          refine wpOp_mono (fun a' w' ⟨hy', C', hs, hC', hk⟩ => ⟨C', hs, hC', ?_⟩) h4
          rw [← Array.setIfInBounds_comm _ _ hji] at hk
          exact ih C' (listed.setIfInBounds j true) a' (inv.set hj) hfree' (ready_mono hr (Ne.symm hji)) (by
            rcases hy' with ⟨h1, h2⟩ | h1
            · exact .inl ⟨h1, fun w _ => by unfold Oper.quietAt; rw [h2 w]; exact ⟨rfl, rfl⟩⟩
            · exact .inr h1) (.inl hy') hk
        · obtain ⟨fl, hwt⟩ := hp j hl hjun
          have := waitsB_ready inv hwt hj
          rw [getDb hiun] at this
          cases this
        · rcases hpg j hl hjun with hgj | ⟨fl, hwt⟩
          · refine .inl ⟨hl, fun w hC => ?_⟩
            have h4 := wpOp_putIf (S := D) hoj hap (fun cs b => hsel i oi cs b hi) (fun cs b => hsel j oj cs b hoj) (fun c a w h => absurd h (hQ c _ w)) hp (hw w hC)
            refine wpOp_mono (fun a' w' ⟨hy', C', hs, hC', hk⟩ => ⟨C', hs, hC', ?_⟩) h4
            rw [← Array.setIfInBounds_comm _ _ hji] at hk
            have hy2 : YieldsIf P ops C' oi v a' := by
              rcases hy' with ⟨h1, h2⟩ | h1
              · exact .inl ⟨h1, fun w hw => h2 w (hs hgj w hw)⟩
              · exact .inr h1
            exact ih C' (listed.setIfInBounds j true) a' (inv.set hj) hfree' (ready_mono hr (Ne.symm hji)) (by
              rcases hy2 with ⟨h1, h2⟩ | h1
              · exact .inl ⟨h1, fun w hw => by unfold Oper.quietAt; rw [h2 w hw]; exact ⟨rfl, rfl⟩⟩
              · exact .inr h1) (.inr (.inr ⟨hy', fun k hk hun => hpg k hk (hun' k hun)⟩)) hk
          · have := waitsB_ready inv hwt hj
            rw [getDb hiun] at this
            cases this
      · have : oj' = oj := Option.some.inj (hoj'.symm.trans hoj)
        subst this
        have hyj' : YieldsIn P ops C oj' u a := hyj.of_same (execOp_put oj' (fun cs b => hsel j oj' cs b hoj) a oi.dst v h1).symm (wanted_put oj' a oi.dst v h1).symm
        refine .inr ⟨hl, oj', u, hoj, hyj', ?_⟩
        refine ih C (listed.setIfInBounds j true) (a.put oj'.dst u) (inv.set hj) hfree' (ready_mono hr (Ne.symm hji))
          (hy.of_same (execOp_put oi (fun cs b => hsel i oi cs b hi) a oj'.dst u h3) (wanted_put oi a oj'.dst u h3)) ?_ ?_
        · rcases hp with hp | hp | ⟨hp, hpg⟩
          · exact .inl (hp.of_same (execOp_put oi (fun cs b => hsel i oi cs b hi) a oj'.dst u h3) (wanted_put oi a oj'.dst u h3))
          · exact .inr (.inl fun k hk hun => hp k hk (hun' k hun))
          · exact .inr (.inr ⟨hp.of_same (execOp_put oi (fun cs b => hsel i oi cs b hi) a oj'.dst u h3) (wanted_put oi a oj'.dst u h3), fun k hk hun => hpg k hk (hun' k hun)⟩)
        · rw [Array.setIfInBounds_comm _ _ hji, ← Act.put_comm a v u h2]
          exact hgj


/-- kinds: 0 pure, 1 one value, 2 any, 3 a call that keeps D, 4 a load out of D -/
def LD (P : Program) (ops : Array Oper) (Q : Exit → Act → World → Prop) (D : World → Prop) : List (Nat × Oper) → Act → (World → Prop) → Prop
  | [], a, C => ∀ w, C w → Q .normal a w
  | (0, o) :: l, a, C => ∃ v, Yields P ops o v a ∧ LD P ops Q D l (a.put o.dst v) C
  | (1, o) :: l, a, C => ∃ v, YieldsIn P ops C o v a ∧ LD P ops Q D l (a.put o.dst v) C
  | (2, o) :: l, a, C => ∀ w, C w → lop P ops Q o (fun a' w' => ∃ C' : World → Prop, C' w' ∧ LD P ops Q D l a' C') a w
  | (3, o) :: l, a, C => ∀ w, C w → lop P ops Q o (fun a' w' => ∃ C' : World → Prop, (∀ w, C' w → D w) ∧ C' w' ∧ LD P ops Q D l a' C') a w
  | (_ + 4, o) :: l, a, C => isLd o.op = true ∧ (∀ w, C w → D w) ∧ ∃ v, YieldsIn P ops D o v a ∧ LD P ops Q D l (a.put o.dst v) C
def lexD (md : Region.Mode) (ops : Array Oper) (loud gro : Nat → Bool) : List (Nat × Nat) → Array Bool → Bool
  | [], listed => (Region.ready md ops listed).isEmpty
  | (0, k) :: ks, listed => !loud k && (Region.ready md ops listed).contains k && Region.free md ops listed k && lexD md ops loud gro ks (listed.setIfInBounds k true)
  | (1, k) :: ks, listed => !loud k && (Region.ready md ops listed).contains k && Region.free md ops listed k && ((List.range ops.size).all fun j => !loud j || listed.getD j true || waitsB md ops k ops.size j) && lexD md ops loud gro ks (listed.setIfInBounds k true)
  | (2, k) :: ks, listed => loud k && !gro k && decide (Region.ready md ops listed = [k]) && lexD md ops loud gro ks (listed.setIfInBounds k true)
  | (3, k) :: ks, listed => loud k && decide (Region.ready md ops listed = [k]) && lexD md ops loud gro ks (listed.setIfInBounds k true)
  | (_ + 4, k) :: ks, listed => !loud k && (Region.ready md ops listed).contains k && Region.free md ops listed k && ((List.range ops.size).all fun j => !loud j || listed.getD j true || gro j || waitsB md ops k ops.size j) && lexD md ops loud gro ks (listed.setIfInBounds k true)
def loudD (ps : List (Nat × Nat)) (j : Nat) : Bool := ps.any fun p => Nat.beq p.2 j && (Nat.beq p.1 2 || Nat.beq p.1 3)
def groD (ps : List (Nat × Nat)) (j : Nat) : Bool := ps.any fun p => Nat.beq p.2 j && Nat.beq p.1 3
def drawD (ps : List (Nat × Nat)) (ops : Array Oper) : Bool := Region.noSelect ops && Nat.beq ps.length ops.size && ps.all (fun p => Nat.blt p.2 ops.size) && lexD .any ops (loudD ps) (groD ps) ps (Array.replicate ops.size false)
theorem loud_step {D C : World → Prop} {loud gro : Nat → Bool} {k : Nat} {o : Oper} {listed : Array Bool} {a : Act} {n : Nat} (hlk : loud k = true) (hr : Region.ready md ops listed = [k]) (h0 : ops[k]? = some o)
    (h : ∀ w, C w → lop P ops Q o (fun a' w' => ∃ C' : World → Prop, (gro k = true → ∀ w, C' w → D w) ∧ C' w' ∧ GD P md ops Q D loud gro C' n (listed.setIfInBounds k true) a') a w) : GD P md ops Q D loud gro C (n + 1) listed a := by
  refine ⟨fun he => (by rw [hr] at he; cases he), fun j hj => ?_⟩
  rw [hr] at hj
  have hjk : j = k := by simpa using hj
  subst hjk
  refine .inl ⟨hlk, fun w hC => ?_⟩
  have hlop := h w hC
  unfold wpOp
  simp only [h0]
  unfold lop at hlop
  split
  · rename_i hg; rw [if_pos hg] at hlop; exact .inl hlop
  · rename_i hg; rw [if_neg hg] at hlop; exact hlop
theorem LD.gd {D : World → Prop} {loud gro : Nat → Bool} (hs : Region.noSelect ops = true) (hQ : ∀ c a w, ¬ Q (.panic c) a w) : ∀ (ps : List (Nat × Nat)) (l : List (Nat × Oper)) (listed : Array Bool) (a : Act) (C : World → Prop), Along ops ps l → (∀ j, ops.size ≤ j → loud j = false) →
    Closed md ops listed → lexD md ops loud gro ps listed = true → LD P ops Q D l a C → GD P md ops Q D loud gro C l.length listed a
  | [], [], listed, a, C, _, _, inv, hB, h => ⟨by simpa [lexD] using hB, h⟩
  | [], _ :: _, _, _, _, hlen, _, _, _, _ => hlen.elim
  | _ :: _, [], _, _, _, hlen, _, _, _, _ => hlen.elim
  | (c, k) :: ks, (c', o) :: l, listed, a, C, ⟨h0, hcc, hl⟩, hlo, inv, hB, h => by
    subst hcc
    have hsz : ∀ j, loud j = true → j < ops.size := fun j hj => by
      rcases Nat.lt_or_ge j ops.size with h' | h'
      · exact h'
      · rw [hlo j h'] at hj; cases hj
    match c, hB, h with
    | 0, hB, h =>
      simp only [lexD, Bool.and_eq_true, Bool.not_eq_true'] at hB
      obtain ⟨⟨⟨hlk, hr⟩, hf⟩, hB'⟩ := hB
      have hr' : k ∈ Region.ready md ops listed := by simpa using hr
      obtain ⟨v, hy, hk⟩ := h
      have hyi : YieldsIn P ops C o v a := by
        rcases hy with ⟨h1, h2⟩ | h1
        · exact .inl ⟨h1, fun w _ => by unfold Oper.quietAt; rw [h2 w]; exact ⟨rfl, rfl⟩⟩
        · exact .inr h1
      exact GD.first h0 (Region.noSelect_spec hs) hQ hlk l.length C listed a inv (Region.free_spec h0 hf) hr' hyi (.inl hy) (LD.gd hs hQ ks l _ _ C hl hlo (inv.set hr') hB' hk)
    | 1, hB, h =>
      simp only [lexD, Bool.and_eq_true, Bool.not_eq_true'] at hB
      obtain ⟨⟨⟨⟨hlk, hr⟩, hf⟩, hw⟩, hB'⟩ := hB
      have hr' : k ∈ Region.ready md ops listed := by simpa using hr
      obtain ⟨v, hy, hk⟩ := h
      refine GD.first h0 (Region.noSelect_spec hs) hQ hlk l.length C listed a inv (Region.free_spec h0 hf) hr' hy (.inr (.inl fun j hj hun => ⟨ops.size, ?_⟩)) (LD.gd hs hQ ks l _ _ C hl hlo (inv.set hr') hB' hk)
      have := List.all_eq_true.1 hw j (List.mem_range.2 (hsz j hj))
      simp only [Bool.or_eq_true, Bool.not_eq_true', hj, hun] at this
      rcases this with (h' | h') | h'
      · cases h'
      · cases h'
      · exact h'
    | 2, hB, h =>
      simp only [lexD, Bool.and_eq_true, Bool.not_eq_true', decide_eq_true_eq] at hB
      obtain ⟨⟨⟨hlk, hgk⟩, hr⟩, hB'⟩ := hB
      have hr' : k ∈ Region.ready md ops listed := by rw [hr]; simp
      exact loud_step hlk hr h0 (fun w hC => lop_mono (fun a' w' ⟨C', hC', hk⟩ => ⟨C', fun hg => (by rw [hgk] at hg; cases hg), hC', LD.gd hs hQ ks l _ _ C' hl hlo (inv.set hr') hB' hk⟩) (h w hC))
    | 3, hB, h =>
      simp only [lexD, Bool.and_eq_true, Bool.not_eq_true', decide_eq_true_eq] at hB
      obtain ⟨⟨hlk, hr⟩, hB'⟩ := hB
      have hr' : k ∈ Region.ready md ops listed := by rw [hr]; simp
      exact loud_step hlk hr h0 (fun w hC => lop_mono (fun a' w' ⟨C', hD, hC', hk⟩ => ⟨C', fun _ => hD, hC', LD.gd hs hQ ks l _ _ C' hl hlo (inv.set hr') hB' hk⟩) (h w hC))
    | c + 4, hB, h =>
      simp only [lexD, Bool.and_eq_true, Bool.not_eq_true'] at hB
      obtain ⟨⟨⟨⟨hlk, hr⟩, hf⟩, hw⟩, hB'⟩ := hB
      have hr' : k ∈ Region.ready md ops listed := by simpa using hr
      obtain ⟨hld, hsub, v, hy, hk⟩ := h
      have hyi : YieldsIn P ops C o v a := by
        rcases hy with ⟨h1, h2⟩ | h1
        · exact .inl ⟨h1, fun w hw => by
            have h3 := yieldsIn_ld (C := D) hld (.inl ⟨h1, h2⟩)
            rcases h3 with ⟨_, h4⟩ | h4
            · unfold Oper.quietAt; rw [h4 w (hsub w hw)]; exact ⟨rfl, rfl⟩
            · rw [h1] at h4; simp at h4⟩
        · exact .inr h1
      refine GD.first h0 (Region.noSelect_spec hs) hQ hlk l.length C listed a inv (Region.free_spec h0 hf) hr' hyi (.inr (.inr ⟨yieldsIn_ld hld hy, fun j hj hun => ?_⟩)) (LD.gd hs hQ ks l _ _ C hl hlo (inv.set hr') hB' hk)
      have := List.all_eq_true.1 hw j (List.mem_range.2 (hsz j hj))
      simp only [Bool.or_eq_true, Bool.not_eq_true', hj, hun] at this
      rcases this with ((h' | h') | h') | h'
      · cases h'
      · cases h'
      · exact .inl h'
      · exact .inr ⟨ops.size, h'⟩
end
section
variable {P : Program} {n : Nat} {w0 : World} {R : Heap} {K : Exit → Fr → List Heap → Prop} {f : Fr} {L L0 : List Heap} {l0 : List Oper} {rest : List (Nat × Oper)} {o : Oper}
/-- as J; L0: the fragments that the calls leave alone -/
def JD (P : Program) (n : Nat) (w0 : World) (R : Heap) (L0 : List Heap) (l0 : List Oper) (K : Exit → Fr → List Heap → Prop) (l : List (Nat × Oper)) (f : Fr) (L : List Heap) : Prop :=
  ∀ a, Rep n f a → LD P l0.toArray (QW n w0 R K) (H w0 R L0) l a (H w0 R L)
theorem JC.drawD {id : Nat} {l : List Oper} (L0 : List Heap) (ps : List (Nat × Nat)) (hm : P.follows .mixedOrders = true) (hB : drawD ps l.toArray = true)
    (h : JD P n w0 R L0 l (drawK K) (picks l ps) f L) : JC P n w0 R (.region id l.toArray true) K f L := fun a w ha hw => by
  simp only [Cx.drawD, Bool.and_eq_true] at hB
  obtain ⟨⟨⟨hs, hlen⟩, hall⟩, hlex⟩ := hB
  have hlen' := Nat.eq_of_beq_eq_true hlen
  have hall' : (ps.all (fun p => Nat.blt p.2 l.length)) = true := by simpa using hall
  obtain ⟨hal, hpl⟩ := picks_along l ps hall'
  refine wp_mono (Q := QW n w0 R (drawK K)) (wp_region_any hm ?_) (fun e a w q => q.mono fun e f L hk => by cases e <;> first | exact hk | exact hk.elim)
  have hl := h a ha
  have inv0 : Closed .any l.toArray (Array.replicate l.toArray.size false) := ⟨by simp, fun j oj _ hl => (by rw [show (Array.replicate l.toArray.size false).getD j false = false from by rcases Nat.lt_or_ge j l.toArray.size with h | h <;> simp_all] at hl; cases hl)⟩
  have := (LD.gd (md := .any) hs (fun c a w q => by obtain ⟨_, _, _, _, hk⟩ := q; exact hk) ps (picks l ps) _ a _ hal (fun j hj => by
    unfold loudD
    rw [List.any_eq_false]
    intro p hp hb
    rw [Bool.and_eq_true] at hb
    have h1 := Nat.eq_of_beq_eq_true hb.1
    have h2 := List.all_eq_true.1 hall p hp
    have h3 : p.2 < l.toArray.size := Nat.le_of_ble_eq_true h2
    omega) inv0 hlex hl).any _ (hw.drew (w.drawn + 1))
  rw [hpl, hlen'] at this
  simpa using this
variable {Γ : List (Nat × TI)} {d : Nat} {op : Op} {ty : TypeId} {pos : String} {aft : Array Edge} {g : Option (Nat × Bool)}
theorem JD.nil (h : K .normal f L) : JD P n w0 R L0 l0 K [] f L := fun _ ha _ hw => ⟨f, L, ha, hw, h⟩
theorem JD.p {v : Value} (hg : wantB n f l0 o = true) (hv : ∀ w, (execOp (ev n f) o).run P w = .ok (.value v) w) (k : JD P n w0 R L0 l0 K rest (updO f o.dst v) L) : JD P n w0 R L0 l0 K ((0, o) :: rest) f L := fun a ha => by
  have hw : Region.wanted o (yielded l0.toArray a.tmps) = true := by rw [ha.wanted, hg]
  exact ⟨v, .inl ⟨hw, fun w => by rw [ha.eval]; exact hv w⟩, k _ (ha.put o.dst v)⟩
theorem JD.ev {v : Value} (hΓ : Fits P Γ) (k : JD P n w0 R L0 l0 K rest (upd f d v) L) (hg : wantB n f l0 ⟨some d, op, ty, pos, aft, g⟩ = true := by exact rfl) (h : pureEv Γ (Cx.ev n f) op = some v := by exact rfl) : JD P n w0 R L0 l0 K ((0, ⟨some d, op, ty, pos, aft, g⟩) :: rest) f L :=
  JD.p hg (fun w => pure_ok hΓ h w) k
theorem JD.bd {t : TypeId} {parts : List (Nat × Operand)} {ps : List (Nat × List Value)} {cl : List Value} (hΓ : Fits P Γ) (k : JD P n w0 R L0 l0 K rest (upd f d (.agg ⟨cl⟩)) L) (hg : wantB n f l0 ⟨some d, .build t ⟨parts⟩, ty, pos, aft, g⟩ = true := by exact rfl) (hp : partsEv (Cx.ev n f) parts = some ps := by exact rfl) (h : buildEv Γ t ps = some cl := by exact rfl) : JD P n w0 R L0 l0 K ((0, ⟨some d, .build t ⟨parts⟩, ty, pos, aft, g⟩) :: rest) f L :=
  JD.p hg (fun w => by
    have := buildEv_ok (P := P) hΓ hp h w
    simp only [execOp, Sem.run_bind]
    rw [this]
    rfl) k
theorem JD.ld {t : TypeId} {x : Operand} {b off κ : Nat} {cs : List Value} {e : TypeId} {fr : Nat × Nat} {v : Value} (hΓ : Fits P Γ) (hsub : ∀ w, H w0 R L w → H w0 R L0 w) (hr : Rd R L0 b (.cells ⟨cs⟩ e fr)) (k : JD P n w0 R L0 l0 K rest (upd f d v) L)
    (hg : wantB n f l0 ⟨some d, .load t x, ty, pos, aft, g⟩ = true := by exact rfl) (hp : Cx.ev n f x = .pointer (some ⟨b, off, none⟩) := by exact rfl) (hv : ldEv Γ t cs off = some v := by exact rfl) : JD P n w0 R L0 l0 K ((κ + 4, ⟨some d, .load t x, ty, pos, aft, g⟩) :: rest) f L := fun a ha => by
  have hw : Region.wanted (⟨some d, .load t x, ty, pos, aft, g⟩ : Oper) (yielded l0.toArray a.tmps) = true := by rw [ha.wanted, hg]
  refine ⟨rfl, hsub, v, .inl ⟨hw, fun w hH => ?_⟩, k _ (ha.put (some d) v)⟩
  unfold Oper.quietAt
  rw [ha.eval, Qt.load (P := P) hΓ hp hr hv w hH]
  exact ⟨rfl, rfl⟩
theorem JD.callvx {fid : FuncId} {x : Operand} {xs : List Operand} {ats : Array TypeId} {vs cp : List Value} {Φ : Value → List Heap → Prop} (he : Entr P fid) (hx : Cx.ev n f x = .func (.func fid) ⟨[]⟩ ⟨cp⟩) (hg : wantB n f l0 ⟨some d, .call ⟨.value x, ⟨xs⟩, ats⟩, ty, pos, aft, g⟩ = true) (ha : argsEv (Cx.ev n f) xs = some vs)
    (hc : ∀ w, H w0 R L w → Calls P fid ⟨vs ++ cp⟩ w fun e w' => ∃ v L', e = .returned v ∧ H w0 R L' w' ∧ Φ v L') (k : ∀ v L', Φ v L' → JD P n w0 R L0 l0 K rest (upd f d v) L') : JD P n w0 R L0 l0 K ((2, ⟨some d, .call ⟨.value x, ⟨xs⟩, ats⟩, ty, pos, aft, g⟩) :: rest) f L := fun a ha' w hH => by
  have hw : Region.wanted (⟨some d, .call ⟨.value x, ⟨xs⟩, ats⟩, ty, pos, aft, g⟩ : Oper) (yielded l0.toArray a.tmps) = true := by rw [ha'.wanted, hg]
  unfold lop
  rw [if_pos hw]
  unfold Oper.wp
  rw [ha'.eval, callv_run he hx ha w]
  refine (hc w hH).mono ?_
  rintro e w' ⟨v, L', rfl, hw', hP⟩
  exact ⟨_, hw', k v L' hP _ (ha'.put (some d) v)⟩
theorem JD.callvd {fid : FuncId} {x : Operand} {xs : List Operand} {ats : Array TypeId} {vs cp : List Value} {Φ : Value → List Heap → Prop} (he : Entr P fid) (hx : Cx.ev n f x = .func (.func fid) ⟨[]⟩ ⟨cp⟩) (hg : wantB n f l0 ⟨some d, .call ⟨.value x, ⟨xs⟩, ats⟩, ty, pos, aft, g⟩ = true) (ha : argsEv (Cx.ev n f) xs = some vs)
    (hc : ∀ w, H w0 R L w → Calls P fid ⟨vs ++ cp⟩ w fun e w' => ∃ v L', e = .returned v ∧ H w0 R L' w' ∧ Φ v L') (k : ∀ v L', Φ v L' → (∀ w, H w0 R L' w → H w0 R L0 w) ∧ JD P n w0 R L0 l0 K rest (upd f d v) L') : JD P n w0 R L0 l0 K ((3, ⟨some d, .call ⟨.value x, ⟨xs⟩, ats⟩, ty, pos, aft, g⟩) :: rest) f L := fun a ha' w hH => by
  have hw : Region.wanted (⟨some d, .call ⟨.value x, ⟨xs⟩, ats⟩, ty, pos, aft, g⟩ : Oper) (yielded l0.toArray a.tmps) = true := by rw [ha'.wanted, hg]
  unfold lop
  rw [if_pos hw]
  unfold Oper.wp
  rw [ha'.eval, callv_run he hx ha w]
  refine (hc w hH).mono ?_
  rintro e w' ⟨v, L', rfl, hw', hP⟩
  exact ⟨_, (k v L' hP).1, hw', (k v L' hP).2 _ (ha'.put (some d) v)⟩
end
end Go.Cx
