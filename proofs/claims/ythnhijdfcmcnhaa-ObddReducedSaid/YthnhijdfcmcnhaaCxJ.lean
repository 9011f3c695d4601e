/-
  The layer's rule for a region that draws its order: one walk in the order of the text serves every order.
-/
import Derived.Test.YthnhijdfcmcnhaaCxI
import Derived.OrdersHeld
namespace Go.Cx
open Go Go.RowKit
set_option linter.unusedVariables false
set_option linter.unusedSimpArgs false

section
variable {P : Program} {ops : Array Oper} {md : Region.Mode} {Q : Exit → Act → World → Prop}

/-- Must j wait for i, through others too? -/
def waitsB (md : Region.Mode) (ops : Array Oper) (i : Nat) : Nat → Nat → Bool
  | 0, _ => false
  | fuel + 1, j =>
    match ops[j]? with
    | some oj => (oj.after.any fun e => Region.binds md e && e.on == i) || oj.after.any fun e => Region.binds md e && waitsB md ops i fuel e.on
    | none => false

/-- A state of the draw: what has come up has had what it waits for come up before it. -/
structure Closed (md : Region.Mode) (ops : Array Oper) (listed : Array Bool) : Prop where
  size : listed.size = ops.size
  closed : ∀ j oj, ops[j]? = some oj → listed.getD j false = true → ∀ e ∈ oj.after, Region.binds md e = true → listed.getD e.on false = true

theorem getDb {listed : Array Bool} {i : Nat} (h : listed.getD i true = false) : listed.getD i false = false := by
  rcases Nat.lt_or_ge i listed.size with h' | h'
  · simp [h'] at h ⊢; exact h
  · simp [Array.getElem?_eq_none h'] at h

theorem Closed.set {listed : Array Bool} {i : Nat} (inv : Closed md ops listed) (hi : i ∈ Region.ready md ops listed) : Closed md ops (listed.setIfInBounds i true) := by
  obtain ⟨_, oi, hoi, hall⟩ := mem_ready.1 hi
  refine ⟨by simp [inv.size], fun j oj hj hl e he hb => ?_⟩
  by_cases hij : i = j
  · subst hij
    have : oj = oi := Option.some.inj (hj.symm.trans hoi)
    subst this
    exact getD_set_true (hall e he hb)
  · rw [getD_set_ne false hij] at hl
    exact getD_set_true (inv.closed j oj hj hl e he hb)

theorem waitsB_listed {listed : Array Bool} {i : Nat} (inv : Closed md ops listed) : ∀ (fuel j : Nat), waitsB md ops i fuel j = true → listed.getD j false = true → listed.getD i false = true
  | 0, _, h, _ => by cases h
  | fuel + 1, j, h, hl => by
    unfold waitsB at h
    cases hj : ops[j]? with
    | none => rw [hj] at h; cases h
    | some oj =>
      rw [hj] at h
      simp only [Bool.or_eq_true, Array.any_eq_true', Bool.and_eq_true, beq_iff_eq] at h
      rcases h with ⟨e, he, hb, hon⟩ | ⟨e, he, hb, hw⟩
      · rw [← hon]; exact inv.closed j oj hj hl e he hb
      · exact waitsB_listed inv fuel e.on hw (inv.closed j oj hj hl e he hb)
theorem waitsB_ready {listed : Array Bool} {i j : Nat} {fuel : Nat} (inv : Closed md ops listed) (h : waitsB md ops i fuel j = true) (hr : j ∈ Region.ready md ops listed) : listed.getD i false = true := by
  obtain ⟨_, oj, hj, hall⟩ := mem_ready.1 hr
  cases fuel with
  | zero => cases h
  | succ fuel =>
    unfold waitsB at h
    rw [hj] at h
    simp only [Bool.or_eq_true, Array.any_eq_true', Bool.and_eq_true, beq_iff_eq] at h
    rcases h with ⟨e, he, hb, hon⟩ | ⟨e, he, hb, hw⟩
    · rw [← hon]; exact hall e he hb
    · exact waitsB_listed inv fuel e.on hw (hall e he hb)

/-- Whatever order is picked from here on. 'loud': operations that change memory; 'gro': those of them that only make memory. -/
def GX (P : Program) (md : Region.Mode) (ops : Array Oper) (Q : Exit → Act → World → Prop) (loud gro : Nat → Bool) : (World → Prop) → Nat → Array Bool → Act → Prop
  | C, 0, listed, a => Region.ready md ops listed = [] ∧ ∀ w, C w → Q .normal a w
  | C, fuel + 1, listed, a =>
    (Region.ready md ops listed = [] → ∀ w, C w → Q .normal a w) ∧
    ∀ j ∈ Region.ready md ops listed, (loud j = true ∧ ∀ w, C w → wpOp P ops Q j (fun a' w' => ∃ C' : World → Prop, (gro j = true → ∀ w, C' w → C w) ∧ C' w' ∧ GX P md ops Q loud gro C' fuel (listed.setIfInBounds j true) a') a w) ∨
      (loud j = false ∧ ∃ oj v, ops[j]? = some oj ∧ YieldsIn P ops C oj v a ∧ GX P md ops Q loud gro C fuel (listed.setIfInBounds j true) (a.put oj.dst v))

theorem GX.any {loud gro : Nat → Bool} : ∀ {fuel : Nat} {C : World → Prop} {listed : Array Bool} {a : Act}, GX P md ops Q loud gro C fuel listed a → ∀ w, C w → wpAny P md ops Q fuel listed a w
  | 0, C, _, _, h, w, hw => ⟨h.1, h.2 w hw⟩
  | fuel + 1, C, listed, a, h, w, hw => by
    refine ⟨fun h0 => h.1 h0 w hw, fun j hj => ?_⟩
    rcases h.2 j hj with ⟨_, h1⟩ | ⟨_, oj, v, ho, hy, hg⟩
    · exact wpOp_mono (fun a' w' ⟨C', _, hC', hk⟩ => hk.any w' hC') (h1 w hw)
    · exact wpOp_of_qOp (K := GX P md ops Q loud gro C fuel (listed.setIfInBounds j true)) hw (fun a' w' hw' hk => hk.any w' hw') (hy.qOp ho hg)

theorem GX.first {loud gro : Nat → Bool} {i : Nat} {oi : Oper} {v : Value} (hi : ops[i]? = some oi) (hsel : ∀ (j : Nat) (o : Oper) cs b, ops[j]? = some o → o.op ≠ .select cs b) (hQ : ∀ c a w, ¬ Q (.panic c) a w) (hil : loud i = false) :
    ∀ (fuel : Nat) (C : World → Prop) (listed : Array Bool) (a : Act), Closed md ops listed →
      (∀ j oj, ops[j]? = some oj → j ≠ i → listed.getD j true = false → (∀ e ∈ oj.after, Region.binds md e = true → e.on ≠ i) → oi.apart ops oj = true) →
      i ∈ Region.ready md ops listed → YieldsIn P ops C oi v a →
      (Yields P ops oi v a ∨ (∀ j, loud j = true → listed.getD j true = false → ∃ f, waitsB md ops i f j = true) ∨ (YieldsIf P ops C oi v a ∧ ∀ j, loud j = true → listed.getD j true = false → gro j = true ∨ ∃ f, waitsB md ops i f j = true)) →
      GX P md ops Q loud gro C fuel (listed.setIfInBounds i true) (a.put oi.dst v) → GX P md ops Q loud gro C (fuel + 1) listed a := by
  intro fuel
  induction fuel with
  | zero =>
    intro C listed a inv _ hr hy _ hg
    refine ⟨fun h => (by rw [h] at hr; cases hr), fun j hj => ?_⟩
    by_cases hji : j = i
    · subst hji; exact .inr ⟨hil, oi, v, hi, hy, hg⟩
    · have := ready_mono hj hji
      rw [hg.1] at this
      cases this
  | succ fuel ih =>
    intro C listed a inv hfree hr hy hp hg
    refine ⟨fun h => (by rw [h] at hr; cases hr), fun j hj => ?_⟩
    by_cases hji : j = i
    · subst hji; exact .inr ⟨hil, oi, v, hi, hy, hg⟩
    · obtain ⟨hjun, oj, hoj, hall⟩ := mem_ready.1 hj
      have hiun := (mem_ready.1 hr).1
      have hnot : ∀ e ∈ oj.after, Region.binds md e = true → e.on ≠ i := fun e he hb heq => by
        have h1 := hall e he hb
        rw [heq, getDb hiun] at h1
        cases h1
      have hap := hfree j oj hoj hji hjun hnot
      obtain ⟨h1, h2, h3⟩ := Oper.apart_spec hap
      have hfree' : ∀ k ok, ops[k]? = some ok → k ≠ i → (listed.setIfInBounds j true).getD k true = false →
          (∀ e ∈ ok.after, Region.binds md e = true → e.on ≠ i) → oi.apart ops ok = true := fun k ok hk hki hun hno => by
        refine hfree k ok hk hki ?_ hno
        by_cases hjk : j = k
        · subst hjk; exact hjun
        · rw [getD_set_ne true hjk] at hun; exact hun
      have hun' : ∀ k, (listed.setIfInBounds j true).getD k true = false → listed.getD k true = false := fun k hun => by
        by_cases hjk : j = k
        · subst hjk; exact hjun
        · rw [getD_set_ne true hjk] at hun; exact hun
      rcases hg.2 j (ready_mono hj hji) with ⟨hl, hw⟩ | ⟨hl, oj', u, hoj', hyj, hgj⟩
      · rcases hp with hp | hp | ⟨hp, hpg⟩
        · refine .inl ⟨hl, fun w hC => ?_⟩
          have h4 := wpOp_put hoj hap (fun cs b => hsel i oi cs b hi) (fun cs b => hsel j oj cs b hoj) (fun c a w h => absurd h (hQ c _ w)) hp (hw w hC)
          refine wpOp_mono (fun a' w' ⟨hy', C', hs, hC', hk⟩ => ⟨C', hs, hC', ?_⟩) h4
          rw [← Array.setIfInBounds_comm _ _ hji] at hk
          exact ih C' (listed.setIfInBounds j true) a' (inv.set hj) hfree' (ready_mono hr (Ne.symm hji)) (by
            rcases hy' with ⟨h1, h2⟩ | h1
            · exact .inl ⟨h1, fun w _ => by unfold Oper.quietAt; rw [h2 w]; exact ⟨rfl, rfl⟩⟩
            · exact .inr h1) (.inl hy') hk
        · obtain ⟨fl, hwt⟩ := hp j hl hjun
          have := waitsB_ready inv hwt hj
          rw [getDb hiun] at this
          cases this
        · rcases hpg j hl hjun with hgj | ⟨fl, hwt⟩
          · refine .inl ⟨hl, fun w hC => ?_⟩
            have h4 := wpOp_putIf (S := C) hoj hap (fun cs b => hsel i oi cs b hi) (fun cs b => hsel j oj cs b hoj) (fun c a w h => absurd h (hQ c _ w)) hp (hw w hC)
            refine wpOp_mono (fun a' w' ⟨hy', C', hs, hC', hk⟩ => ⟨C', hs, hC', ?_⟩) h4
            rw [← Array.setIfInBounds_comm _ _ hji] at hk
            have hy2 : YieldsIf P ops C' oi v a' := by
              rcases hy' with ⟨h1, h2⟩ | h1
              · exact .inl ⟨h1, fun w hw => h2 w (hs hgj w hw)⟩
              · exact .inr h1
            exact ih C' (listed.setIfInBounds j true) a' (inv.set hj) hfree' (ready_mono hr (Ne.symm hji)) (by
              rcases hy2 with ⟨h1, h2⟩ | h1
              · exact .inl ⟨h1, fun w hw => by unfold Oper.quietAt; rw [h2 w hw]; exact ⟨rfl, rfl⟩⟩
              · exact .inr h1) (.inr (.inr ⟨hy2, fun k hk hun => hpg k hk (hun' k hun)⟩)) hk
          · have := waitsB_ready inv hwt hj
            rw [getDb hiun] at this
            cases this
      · have : oj' = oj := Option.some.inj (hoj'.symm.trans hoj)
        subst this
        have hyj' : YieldsIn P ops C oj' u a := hyj.of_same (execOp_put oj' (fun cs b => hsel j oj' cs b hoj) a oi.dst v h1).symm (wanted_put oj' a oi.dst v h1).symm
        refine .inr ⟨hl, oj', u, hoj, hyj', ?_⟩
        refine ih C (listed.setIfInBounds j true) (a.put oj'.dst u) (inv.set hj) hfree' (ready_mono hr (Ne.symm hji))
          (hy.of_same (execOp_put oi (fun cs b => hsel i oi cs b hi) a oj'.dst u h3) (wanted_put oi a oj'.dst u h3)) ?_ ?_
        · rcases hp with hp | hp | ⟨hp, hpg⟩
          · exact .inl (hp.of_same (execOp_put oi (fun cs b => hsel i oi cs b hi) a oj'.dst u h3) (wanted_put oi a oj'.dst u h3))
          · exact .inr (.inl fun k hk hun => hp k hk (hun' k hun))
          · exact .inr (.inr ⟨hp.of_same (execOp_put oi (fun cs b => hsel i oi cs b hi) a oj'.dst u h3) (wanted_put oi a oj'.dst u h3), fun k hk hun => hpg k hk (hun' k hun)⟩)
        · rw [Array.setIfInBounds_comm _ _ hji, ← Act.put_comm a v u h2]
          exact hgj

/-- a load -/
def isLd : Op → Bool
  | .load .. => true
  | _ => false
theorem yieldsIn_ld {C : World → Prop} {o : Oper} {v : Value} {a : Act} (hl : isLd o.op = true) (h : YieldsIn P ops C o v a) : YieldsIf P ops C o v a := by
  rcases h with ⟨h1, h2⟩ | h1
  · refine .inl ⟨h1, fun w hw => ?_⟩
    have h3 := h2 w hw
    unfold Oper.quietAt at h3
    obtain ⟨dst, op, ty, pos, aft, g⟩ := o
    cases op <;> try (cases hl; done)
    rename_i t x
    simp only [execOp, Sem.run_bind] at h3 ⊢
    cases hr : (Instr.loadAt t (a.eval x)).run P w with
    | ok u w' =>
      rw [hr] at h3
      simp only [Result.andThen_ok, Sem.run_pure] at h3 ⊢
      obtain ⟨h4, h5⟩ := h3
      rw [h4, h5]
    | halt y w' => rw [hr] at h3; exact absurd h3 (by simp [Result.andThen, Oper.quietUpon])
  · exact .inr h1

/-- The check: in the order of the text each operation may come up, and could as well have come up now. -/
def lexK (md : Region.Mode) (ops : Array Oper) (loud gro : Nat → Bool) : List Nat → Nat → Array Bool → Bool
  | [], _, listed => (Region.ready md ops listed).isEmpty
  | 0 :: ks, k, listed => !loud k && (Region.ready md ops listed).contains k && Region.free md ops listed k && lexK md ops loud gro ks (k + 1) (listed.setIfInBounds k true)
  | 1 :: ks, k, listed => !loud k && (Region.ready md ops listed).contains k && Region.free md ops listed k && ((List.range ops.size).all fun j => !loud j || listed.getD j true || (gro j && (match ops[k]? with | some o => isLd o.op | none => false)) || waitsB md ops k ops.size j) && lexK md ops loud gro ks (k + 1) (listed.setIfInBounds k true)
  | (c + 2) :: ks, k, listed => loud k && (gro k == !(Nat.beq c 0)) && decide (Region.ready md ops listed = [k]) && lexK md ops loud gro ks (k + 1) (listed.setIfInBounds k true)
def loudOf (ks : List Nat) (j : Nat) : Bool := match ks[j]? with | some k => Nat.ble 2 k | none => false
def groOf (ks : List Nat) (j : Nat) : Bool := match ks[j]? with | some k => Nat.ble 3 k | none => false
def drawB (ks : List Nat) (ops : Array Oper) : Bool := Region.noSelect ops && Nat.beq ks.length ops.size && lexK .any ops (loudOf ks) (groOf ks) ks 0 (Array.replicate ops.size false)

theorem zipK_len : ∀ (ks : List Nat) (l : List Oper), (zipK ks l).length = l.length
  | _, [] => rfl
  | [], _ :: l => by simp only [zipK, List.length_cons, zipK_len [] l]
  | _ :: ks, _ :: l => by simp only [zipK, List.length_cons, zipK_len ks l]

theorem LX.gx {loud gro : Nat → Bool} (hs : Region.noSelect ops = true) (hQ : ∀ c a w, ¬ Q (.panic c) a w) : ∀ (ks : List Nat) (l : List Oper) (k : Nat) (listed : Array Bool) (a : Act) (C : World → Prop), ks.length = l.length → (∀ j, l[j]? = ops[k + j]?) → (∀ j, ops.size ≤ j → loud j = false) →
    Closed md ops listed → lexK md ops loud gro ks k listed = true → LX P ops Q (zipK ks l) a C → GX P md ops Q loud gro C l.length listed a
  | [], [], k, listed, a, C, _, _, _, inv, hB, h => ⟨by simpa [lexK] using hB, h⟩
  | [], _ :: _, _, _, _, _, hlen, _, _, _, _, _ => by simp at hlen
  | _ :: _, [], _, _, _, _, hlen, _, _, _, _, _ => by simp at hlen
  | 0 :: ks, o :: l, k, listed, a, C, hlen, hl, hlo, inv, hB, h => by
    have h0 : ops[k]? = some o := by simpa using (hl 0).symm
    simp only [lexK, Bool.and_eq_true, Bool.not_eq_true'] at hB
    obtain ⟨⟨⟨hlk, hr⟩, hf⟩, hB'⟩ := hB
    have hr' : k ∈ Region.ready md ops listed := by simpa using hr
    obtain ⟨v, hy, hk⟩ : ∃ v, Yields P ops o v a ∧ LX P ops Q (zipK ks l) (a.put o.dst v) C := h
    have hyi : YieldsIn P ops C o v a := by
      rcases hy with ⟨h1, h2⟩ | h1
      · exact .inl ⟨h1, fun w _ => by unfold Oper.quietAt; rw [h2 w]; exact ⟨rfl, rfl⟩⟩
      · exact .inr h1
    exact GX.first h0 (Region.noSelect_spec hs) hQ hlk l.length C listed a inv (Region.free_spec h0 hf) hr' hyi (.inl hy)
      (LX.gx hs hQ ks l (k + 1) _ _ C (by simpa using hlen) (fun j => by have := hl (j + 1); simpa [Nat.add_assoc, Nat.add_comm 1 j] using this) hlo (inv.set hr') hB' hk)
  | 1 :: ks, o :: l, k, listed, a, C, hlen, hl, hlo, inv, hB, h => by
    have h0 : ops[k]? = some o := by simpa using (hl 0).symm
    simp only [lexK, Bool.and_eq_true, Bool.not_eq_true'] at hB
    obtain ⟨⟨⟨⟨hlk, hr⟩, hf⟩, hw⟩, hB'⟩ := hB
    have hr' : k ∈ Region.ready md ops listed := by simpa using hr
    obtain ⟨v, hy, hk⟩ : ∃ v, YieldsIn P ops C o v a ∧ LX P ops Q (zipK ks l) (a.put o.dst v) C := h
    have hall : ∀ j, loud j = true → listed.getD j true = false → (gro j = true ∧ isLd o.op = true) ∨ waitsB md ops k ops.size j = true := fun j hj hun => by
      have hjs : j < ops.size := by
        rcases Nat.lt_or_ge j ops.size with h' | h'
        · exact h'
        · rw [hlo j h'] at hj; cases hj
      have := List.all_eq_true.1 hw j (List.mem_range.2 hjs)
      simp only [Bool.or_eq_true, Bool.not_eq_true', hj, hun, h0, Bool.and_eq_true] at this
      rcases this with ((h' | h') | h') | h'
      · cases h'
      · cases h'
      · exact .inl h'
      · exact .inr h'
    refine GX.first h0 (Region.noSelect_spec hs) hQ hlk l.length C listed a inv (Region.free_spec h0 hf) hr' hy ?_
      (LX.gx hs hQ ks l (k + 1) _ _ C (by simpa using hlen) (fun j => by have := hl (j + 1); simpa [Nat.add_assoc, Nat.add_comm 1 j] using this) hlo (inv.set hr') hB' hk)
    cases hld : isLd o.op with
    | true =>
      refine .inr (.inr ⟨yieldsIn_ld hld hy, fun j hj hun => ?_⟩)
      rcases hall j hj hun with h | h
      · exact .inl h.1
      · exact .inr ⟨ops.size, h⟩
    | false =>
      refine .inr (.inl fun j hj hun => ⟨ops.size, ?_⟩)
      rcases hall j hj hun with h | h
      · rw [hld] at h; cases h.2
      · exact h
  | (c + 2) :: ks, o :: l, k, listed, a, C, hlen, hl, hlo, inv, hB, h => by
    have h0 : ops[k]? = some o := by simpa using (hl 0).symm
    simp only [lexK, Bool.and_eq_true, decide_eq_true_eq] at hB
    obtain ⟨⟨⟨hlk, hgk⟩, hr⟩, hB'⟩ := hB
    have hr' : k ∈ Region.ready md ops listed := by rw [hr]; simp
    have h' : ∀ w, C w → lop P ops Q o (fun a' w' => ∃ C' : World → Prop, (c ≠ 0 → ∀ w, C' w → C w) ∧ C' w' ∧ LX P ops Q (zipK ks l) a' C') a w := h
    have hc : gro k = true → c ≠ 0 := fun hg hc => by
      rw [hg, hc] at hgk
      cases hgk
    refine ⟨fun he => (by rw [hr] at he; cases he), fun j hj => ?_⟩
    rw [hr] at hj
    have hjk : j = k := by simpa using hj
    subst hjk
    refine .inl ⟨hlk, fun w hC => ?_⟩
    have hlop := h' w hC
    have hwp : wpOp P ops Q j (fun a' w' => ∃ C' : World → Prop, (c ≠ 0 → ∀ w, C' w → C w) ∧ C' w' ∧ LX P ops Q (zipK ks l) a' C') a w := by
      unfold wpOp
      simp only [h0]
      unfold lop at hlop
      split
      · rename_i hg; rw [if_pos hg] at hlop; exact .inl hlop
      · rename_i hg; rw [if_neg hg] at hlop; exact hlop
    refine wpOp_mono (fun a' w' ⟨C', hsub, hC', hk⟩ => ⟨C', fun hg => hsub (hc hg), hC', ?_⟩) hwp
    exact LX.gx hs hQ ks l (j + 1) _ _ C' (by simpa using hlen) (fun i => by have := hl (i + 1); simpa [Nat.add_assoc, Nat.add_comm 1 i] using this) hlo (inv.set hr') hB' hk
end

/-- The kinds of operations, by their form; 'lc': the numbers of the calls that hand back memory; 'lw': of those that write. -/
def kd (lc lw : List Nat) (i : Nat) : Op → Nat
  | .move _ | .assign _ | .pick .. | .binOp .. | .unOp .. | .convert .. | .fieldAddr .. | .indexAddr .. | .field .. | .extract .. | .makeFunc .. | .build .. | .index .. | .slice .. => 0
  | .load .. | .lookup .. => 1
  | .call ⟨.builtin .len, _, _⟩ => match lc.contains i with | true => 1 | false => 0
  | .buildSlice .. | .alloc .. | .box .. | .makeSlice .. => 3
  | .call ⟨.builtin .min, _, _⟩ | .call ⟨.builtin .max, _, _⟩ => 0
  | .call ⟨.builtin _, _, _⟩ => 2
  | .call _ => match lw.contains i with | true => 2 | false => match lc.contains i with | true => 3 | false => 1
  | _ => 2
def kindsOf (lc lw : List Nat) : Nat → List Oper → List Nat
  | _, [] => []
  | i, o :: l => kd lc lw i o.op :: kindsOf lc lw (i + 1) l

def drawK (K : Exit → Fr → List Heap → Prop) : Exit → Fr → List Heap → Prop
  | .normal, f, L => K .normal f L
  | _, _, _ => False
theorem drawK.nn {K : Exit → Fr → List Heap → Prop} {f : Fr} {L : List Heap} (h : K .normal f L) : drawK K .normal f L := h

/-- A region that draws. -/
theorem JC.draw {P : Program} {n : Nat} {w0 : World} {R : Heap} {K : Exit → Fr → List Heap → Prop} {f : Fr} {L : List Heap} {id : Nat} {l : List Oper} (ks : List Nat) (hm : P.follows .mixedOrders = true) (hB : drawB ks l.toArray = true)
    (h : J P n w0 R l (drawK K) (zipK ks l) f L) : JC P n w0 R (.region id l.toArray true) K f L := fun a w ha hw => by
  simp only [drawB, Bool.and_eq_true] at hB
  obtain ⟨⟨hs, hlen⟩, hlex⟩ := hB
  have hlen' := Nat.eq_of_beq_eq_true hlen
  refine wp_mono (Q := QW n w0 R (drawK K)) (wp_region_any hm ?_) (fun e a w q => q.mono fun e f L hk => by cases e <;> first | exact hk | exact hk.elim)
  have hl := h a ha
  have inv0 : Closed .any l.toArray (Array.replicate l.toArray.size false) := ⟨by simp, fun j oj _ hl => (by rw [show (Array.replicate l.toArray.size false).getD j false = false from by rcases Nat.lt_or_ge j l.toArray.size with h | h <;> simp_all] at hl; cases hl)⟩
  have := (LX.gx (md := .any) hs (fun c a w q => by obtain ⟨_, _, _, _, hk⟩ := q; exact hk) ks l 0 _ a _ (by simpa using hlen') (by simp) (fun j hj => by
    unfold loudOf
    rw [List.getElem?_eq_none (by omega)]) inv0 hlex hl).any _ (hw.drew (w.drawn + 1))
  simpa using this
theorem JC.drawA {P : Program} {n : Nat} {w0 : World} {R : Heap} {K : Exit → Fr → List Heap → Prop} {f : Fr} {L : List Heap} {id : Nat} {l : List Oper} (lc : List Nat) (hm : P.follows .mixedOrders = true) (hB : drawB (kindsOf lc [] 0 l) l.toArray = true)
    (h : J P n w0 R l (drawK K) (zipK (kindsOf lc [] 0 l) l) f L) : JC P n w0 R (.region id l.toArray true) K f L := JC.draw _ hm hB h
theorem JC.drawW {P : Program} {n : Nat} {w0 : World} {R : Heap} {K : Exit → Fr → List Heap → Prop} {f : Fr} {L : List Heap} {id : Nat} {l : List Oper} (lc lw : List Nat) (hm : P.follows .mixedOrders = true) (hB : drawB (kindsOf lc lw 0 l) l.toArray = true)
    (h : J P n w0 R l (drawK K) (zipK (kindsOf lc lw 0 l) l) f L) : JC P n w0 R (.region id l.toArray true) K f L := JC.draw _ hm hB h
end Go.Cx
