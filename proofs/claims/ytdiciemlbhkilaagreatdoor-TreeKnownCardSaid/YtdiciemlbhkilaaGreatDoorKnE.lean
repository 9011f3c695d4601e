/- TreeKnown: part 5. -/
import Derived.Test.YtdiciemlbhkilaaGreatDoorKnD
import Derived.Maps.OwnSet
import Derived.Maps.Ext
import Derived.Maps.RangeWalk
import Derived.Shelf.SlMaps.DeleteFunc
import Derived.LoopNIn
namespace Go.Cx
open Go Go.RowKit
set_option linter.unusedVariables false
set_option linter.unusedSimpArgs false
def dfr (ds : List Deferred) (a : Act) : Act := { a with defers := a.defers ++ ds }
theorem dfr_nil (a : Act) : dfr [] a = a := by unfold dfr; rw [List.append_nil]
theorem dfr_put (ds : List Deferred) (a : Act) (d : Option Tmp) (v : Value) : (dfr ds a).put d v = dfr ds (a.put d v) := by cases d <;> rfl
theorem oper_dfr {P : Program} {ds : List Deferred} {o : Oper} {a : Act} {w : World} {next next' : Act → World → Prop} {Q Q' : Exit → Act → World → Prop} (hn : ∀ a w, next a w → next' (dfr ds a) w) (hp : ∀ c a w, ¬ Q (.panic c) a w) (hl : ∀ a w, ¬ Q .outgrown a w) (h : o.wp P a w next Q) : o.wp P (dfr ds a) w next' Q' := by
  unfold Oper.wp at *
  have he : (dfr ds a).eval = a.eval := rfl
  rw [he]
  generalize (execOp a.eval o).run P w = r at *
  cases r with
  | ok x w' =>
    cases x <;> simp only [Oper.upon] at h ⊢ <;>
      first
        | (rw [dfr_put]; exact hn _ _ h)
        | exact (by have := hn _ _ h; rw [← dfr_put] at this; exact this)
        | exact Calls.mono h (fun e w'' he => by cases e <;> first | (have := hn _ _ he; rw [← dfr_put] at this; exact this) | exact absurd he (hp _ _ _) | (obtain ⟨a, w, h⟩ := he; exact absurd h (hl _ _)))
        | exact Rows.mono h (fun _ _ he => by have := hn _ _ he; rw [← dfr_put] at this; exact this)
        | exact h.elim
  | halt x w' => cases x <;> simp only [Oper.upon] at h ⊢ <;> first | exact absurd h (hp _ _ _) | exact h.elim
section
variable {ds : List Deferred} {m : Nat} {P : Program} {n : Nat} {w0 : World} {R : Heap} {l0 : List Oper} {K : Exit → Fr → List Heap → Prop} {f : Fr} {L : List Heap} {o : Oper} {fuel : Nat} {listed : Array Bool} {Q : Exit → Act → World → Prop}
theorem yield_run {l : Nat} {x : Operand} {xs : List Operand} {ats : Array TypeId} {vs : List Value} {dst : Option Tmp} {ty : TypeId} {pos : String} {aft : Array Edge} {g : Option (Nat × Bool)} (hx : Cx.ev n f x = .func (.yield l) ⟨[]⟩ ⟨[]⟩) (ha : argsEv (Cx.ev n f) xs = some vs) (w : World) :
    (execOp (Cx.ev n f) ⟨dst, .call ⟨.value x, ⟨xs⟩, ats⟩, ty, pos, aft, g⟩).run P w = (Instr.yield l ⟨vs⟩).run P w := by
  have h1 : (⟨xs⟩ : Array Operand).map (Cx.ev n f) = ⟨vs⟩ := by rw [← argsEv_eq ha]; simp
  simp only [execOp, resolve, h1, hx, Deferred.ofValue, Sem.run_bind, Sem.run_pure, Result.andThen_ok, invoke]
  simp
end
end Go.Cx
namespace Go.Cx
open Go Go.RowKit
set_option linter.unusedVariables false
set_option linter.unusedSimpArgs false
theorem Ag.hv2 {ws ws2 : Nat → Bool} {f f2 g : Fr} (hs : ∀ i, ws2 i = true → ws i = true) (h : Ag ws f f2) : Ag ws f (havoc ws2 f2 g) := fun i hi => by
  have h2 : ws2 i = false := by
    cases hb : ws2 i with
    | false => rfl
    | true => rw [hs i hb] at hi; cases hi
  simp only [havoc, h2, cond_false]
  exact h i hi
end Go.Cx
namespace Go.Cx
open Go Go.RowKit
set_option linter.unusedVariables false
set_option linter.unusedSimpArgs false
section
variable {P : Program} {ops : Array Oper} {md : Region.Mode} {Q : Exit → Act → World → Prop}
def Along (ops : Array Oper) : List (Nat × Nat) → List (Nat × Oper) → Prop
  | [], [] => True
  | (c, k) :: ps, (d, o) :: l => ops[k]? = some o ∧ c = d ∧ Along ops ps l
  | _, _ => False
def lexP (md : Region.Mode) (ops : Array Oper) (loud gro : Nat → Bool) : List (Nat × Nat) → Array Bool → Bool
  | [], listed => (Region.ready md ops listed).isEmpty
  | (0, k) :: ks, listed => !loud k && (Region.ready md ops listed).contains k && Region.free md ops listed k && lexP md ops loud gro ks (listed.setIfInBounds k true)
  | (1, k) :: ks, listed => !loud k && (Region.ready md ops listed).contains k && Region.free md ops listed k && ((List.range ops.size).all fun j => !loud j || listed.getD j true || (gro j && (match ops[k]? with | some o => isLd o.op | none => false)) || waitsB md ops k ops.size j) && lexP md ops loud gro ks (listed.setIfInBounds k true)
  | (c + 2, k) :: ks, listed => loud k && (gro k == !(Nat.beq c 0)) && decide (Region.ready md ops listed = [k]) && lexP md ops loud gro ks (listed.setIfInBounds k true)
def loudP (ps : List (Nat × Nat)) (j : Nat) : Bool := ps.any fun p => Nat.beq p.2 j && Nat.ble 2 p.1
def groP (ps : List (Nat × Nat)) (j : Nat) : Bool := ps.any fun p => Nat.beq p.2 j && Nat.ble 3 p.1
def drawP (ps : List (Nat × Nat)) (ops : Array Oper) : Bool := Region.noSelect ops && Nat.beq ps.length ops.size && ps.all (fun p => Nat.blt p.2 ops.size) && lexP .any ops (loudP ps) (groP ps) ps (Array.replicate ops.size false)
def picks (l0 : List Oper) : List (Nat × Nat) → List (Nat × Oper)
  | [] => []
  | (c, k) :: ps => match l0[k]? with | some o => (c, o) :: picks l0 ps | none => picks l0 ps
theorem picks_along (l0 : List Oper) : ∀ (ps : List (Nat × Nat)), (ps.all (fun p => Nat.blt p.2 l0.length)) = true → Along l0.toArray ps (picks l0 ps) ∧ (picks l0 ps).length = ps.length
  | [], _ => ⟨trivial, rfl⟩
  | (c, k) :: ps, h => by
    rw [List.all_cons, Bool.and_eq_true] at h
    have hk : k < l0.length := Nat.le_of_ble_eq_true h.1
    have ih := picks_along l0 ps h.2
    have e : l0[k]? = some l0[k] := List.getElem?_eq_getElem hk
    simp only [picks, e, Along, List.length_cons]
    exact ⟨⟨by simp [hk], trivial, ih.1⟩, by rw [ih.2]⟩
theorem LX.gp {loud gro : Nat → Bool} (hs : Region.noSelect ops = true) (hQ : ∀ c a w, ¬ Q (.panic c) a w) : ∀ (ps : List (Nat × Nat)) (l : List (Nat × Oper)) (listed : Array Bool) (a : Act) (C : World → Prop), Along ops ps l → (∀ j, ops.size ≤ j → loud j = false) →
    Closed md ops listed → lexP md ops loud gro ps listed = true → LX P ops Q l a C → GX P md ops Q loud gro C l.length listed a
  | [], [], listed, a, C, _, _, inv, hB, h => ⟨by simpa [lexP] using hB, h⟩
  | [], _ :: _, _, _, _, hlen, _, _, _, _ => hlen.elim
  | _ :: _, [], _, _, _, hlen, _, _, _, _ => hlen.elim
  | (0, k) :: ks, (0, o) :: l, listed, a, C, ⟨h0, _, hl⟩, hlo, inv, hB, h => by
    simp only [lexP, Bool.and_eq_true, Bool.not_eq_true'] at hB
    obtain ⟨⟨⟨hlk, hr⟩, hf⟩, hB'⟩ := hB
    have hr' : k ∈ Region.ready md ops listed := by simpa using hr
    obtain ⟨v, hy, hk⟩ : ∃ v, Yields P ops o v a ∧ LX P ops Q l (a.put o.dst v) C := h
    have hyi : YieldsIn P ops C o v a := by
      rcases hy with ⟨h1, h2⟩ | h1
      · exact .inl ⟨h1, fun w _ => by unfold Oper.quietAt; rw [h2 w]; exact ⟨rfl, rfl⟩⟩
      · exact .inr h1
    exact GX.first h0 (Region.noSelect_spec hs) hQ hlk l.length C listed a inv (Region.free_spec h0 hf) hr' hyi (.inl hy)
      (LX.gp hs hQ ks l _ _ C hl hlo (inv.set hr') hB' hk)
  | (1, k) :: ks, (1, o) :: l, listed, a, C, ⟨h0, _, hl⟩, hlo, inv, hB, h => by
    simp only [lexP, Bool.and_eq_true, Bool.not_eq_true'] at hB
    obtain ⟨⟨⟨⟨hlk, hr⟩, hf⟩, hw⟩, hB'⟩ := hB
    have hr' : k ∈ Region.ready md ops listed := by simpa using hr
    obtain ⟨v, hy, hk⟩ : ∃ v, YieldsIn P ops C o v a ∧ LX P ops Q l (a.put o.dst v) C := h
    have hall : ∀ j, loud j = true → listed.getD j true = false → (gro j = true ∧ isLd o.op = true) ∨ waitsB md ops k ops.size j = true := fun j hj hun => by
      have hjs : j < ops.size := by
        rcases Nat.lt_or_ge j ops.size with h' | h'
        · exact h'
        · rw [hlo j h'] at hj; cases hj
      have := List.all_eq_true.1 hw j (List.mem_range.2 hjs)
      simp only [Bool.or_eq_true, Bool.not_eq_true', hj, hun, h0, Bool.and_eq_true] at this
      rcases this with ((h' | h') | h') | h'
      · cases h'
      · cases h'
      · exact .inl h'
      · exact .inr h'
    refine GX.first h0 (Region.noSelect_spec hs) hQ hlk l.length C listed a inv (Region.free_spec h0 hf) hr' hy ?_
      (LX.gp hs hQ ks l _ _ C hl hlo (inv.set hr') hB' hk)
    cases hld : isLd o.op with
    | true =>
      refine .inr (.inr ⟨yieldsIn_ld hld hy, fun j hj hun => ?_⟩)
      rcases hall j hj hun with h | h
      · exact .inl h.1
      · exact .inr ⟨ops.size, h⟩
    | false =>
      refine .inr (.inl fun j hj hun => ⟨ops.size, ?_⟩)
      rcases hall j hj hun with h | h
      · rw [hld] at h; cases h.2
      · exact h
  | (c' + 2, k) :: ks, (c + 2, o) :: l, listed, a, C, ⟨h0, hcc, hl⟩, hlo, inv, hB, h => by
    obtain rfl : c = c' := by have := hcc; omega
    simp only [lexP, Bool.and_eq_true, decide_eq_true_eq] at hB
    obtain ⟨⟨⟨hlk, hgk⟩, hr⟩, hB'⟩ := hB
    have hr' : k ∈ Region.ready md ops listed := by rw [hr]; simp
    have h' : ∀ w, C w → lop P ops Q o (fun a' w' => ∃ C' : World → Prop, (c ≠ 0 → ∀ w, C' w → C w) ∧ C' w' ∧ LX P ops Q l a' C') a w := h
    have hc : gro k = true → c ≠ 0 := fun hg hc => by
      rw [hg, hc] at hgk
      cases hgk
    refine ⟨fun he => (by rw [hr] at he; cases he), fun j hj => ?_⟩
    rw [hr] at hj
    have hjk : j = k := by simpa using hj
    subst hjk
    refine .inl ⟨hlk, fun w hC => ?_⟩
    have hlop := h' w hC
    have hwp : wpOp P ops Q j (fun a' w' => ∃ C' : World → Prop, (c ≠ 0 → ∀ w, C' w → C w) ∧ C' w' ∧ LX P ops Q l a' C') a w := by
      unfold wpOp
      simp only [h0]
      unfold lop at hlop
      split
      · rename_i hg; rw [if_pos hg] at hlop; exact .inl hlop
      · rename_i hg; rw [if_neg hg] at hlop; exact hlop
    refine wpOp_mono (fun a' w' ⟨C', hsub, hC', hk⟩ => ⟨C', fun hg => hsub (hc hg), hC', ?_⟩) hwp
    exact LX.gp hs hQ ks l _ _ C' hl hlo (inv.set hr') hB' hk
  | (0, _) :: _, (_ + 1, _) :: _, _, _, _, ⟨_, hc, _⟩, _, _, _, _ => by cases hc
  | (1, _) :: _, (0, _) :: _, _, _, _, ⟨_, hc, _⟩, _, _, _, _ => by cases hc
  | (1, _) :: _, (_ + 2, _) :: _, _, _, _, ⟨_, hc, _⟩, _, _, _, _ => by simp at hc
  | (_ + 2, _) :: _, (0, _) :: _, _, _, _, ⟨_, hc, _⟩, _, _, _, _ => by simp at hc
  | (_ + 2, _) :: _, (1, _) :: _, _, _, _, ⟨_, hc, _⟩, _, _, _, _ => by simp at hc
end
section
variable {P : Program} {n : Nat} {w0 : World} {R : Heap} {K : Exit → Fr → List Heap → Prop} {f : Fr} {L : List Heap} {l0 : List Oper} {rest : List (Nat × Oper)} {o : Oper}
def JX (P : Program) (n : Nat) (w0 : World) (R : Heap) (l0 : List Oper) (K : Exit → Fr → List Heap → Prop) (l : List (Nat × Oper)) (f : Fr) (Fam : List Heap → Prop) : Prop :=
  ∀ a, Rep n f a → LX P l0.toArray (QW n w0 R K) l a (fun w => ∃ L, Fam L ∧ H w0 R L w)
theorem JC.drawX {id : Nat} {l : List Oper} {Fam : List Heap → Prop} (ps : List (Nat × Nat)) (hm : P.follows .mixedOrders = true) (hB : drawP ps l.toArray = true) (hL : Fam L)
    (h : JX P n w0 R l (drawK K) (picks l ps) f Fam) : JC P n w0 R (.region id l.toArray true) K f L := fun a w ha hw => by
  simp only [drawP, Bool.and_eq_true] at hB
  obtain ⟨⟨⟨hs, hlen⟩, hall⟩, hlex⟩ := hB
  have hlen' := Nat.eq_of_beq_eq_true hlen
  have hall' : (ps.all (fun p => Nat.blt p.2 l.length)) = true := by simpa using hall
  obtain ⟨hal, hpl⟩ := picks_along l ps hall'
  refine wp_mono (Q := QW n w0 R (drawK K)) (wp_region_any hm ?_) (fun e a w q => q.mono fun e f L hk => by cases e <;> first | exact hk | exact hk.elim)
  have hl := h a ha
  have inv0 : Closed .any l.toArray (Array.replicate l.toArray.size false) := ⟨by simp, fun j oj _ hl => (by rw [show (Array.replicate l.toArray.size false).getD j false = false from by rcases Nat.lt_or_ge j l.toArray.size with h | h <;> simp_all] at hl; cases hl)⟩
  have := (LX.gp (md := .any) hs (fun c a w q => by obtain ⟨_, _, _, _, hk⟩ := q; exact hk) ps (picks l ps) _ a _ hal (fun j hj => by
    unfold loudP
    rw [List.any_eq_false]
    intro p hp hb
    rw [Bool.and_eq_true] at hb
    have h1 := Nat.eq_of_beq_eq_true hb.1
    have h2 := List.all_eq_true.1 hall p hp
    have h3 : p.2 < l.toArray.size := Nat.le_of_ble_eq_true h2
    omega) inv0 hlex hl).any _ ⟨L, hL, hw.drew (w.drawn + 1)⟩
  rw [hpl, hlen'] at this
  simpa using this
theorem JX.of {l : List (Nat × Oper)} (h : J P n w0 R l0 K l f L) : JX P n w0 R l0 K l f (fun L' => L' = L) := fun a ha => by
  have e : (fun w => ∃ L', L' = L ∧ H w0 R L' w) = H w0 R L := funext fun w => propext ⟨fun ⟨_, e, h⟩ => e ▸ h, fun h => ⟨L, rfl, h⟩⟩
  rw [e]
  exact h a ha
theorem JC.drawO {id : Nat} {l : List Oper} (ps : List (Nat × Nat)) (hm : P.follows .mixedOrders = true) (hB : drawP ps l.toArray = true)
    (h : J P n w0 R l (drawK K) (picks l ps) f L) : JC P n w0 R (.region id l.toArray true) K f L := JC.drawX (Fam := fun L' => L' = L) ps hm hB rfl (JX.of h)
variable {Γ : List (Nat × TI)} {d : Nat} {op : Op} {ty : TypeId} {pos : String} {aft : Array Edge} {g : Option (Nat × Bool)} {Fam : List Heap → Prop}
end
end Go.Cx
namespace Go.Cx
open Go Go.RowKit
set_option linter.unusedVariables false
set_option linter.unusedSimpArgs false
section
variable {P : Program} {ops : Array Oper} {md : Region.Mode} {Q : Exit → Act → World → Prop}
def GD (P : Program) (md : Region.Mode) (ops : Array Oper) (Q : Exit → Act → World → Prop) (D : World → Prop) (loud gro : Nat → Bool) : (World → Prop) → Nat → Array Bool → Act → Prop
  | C, 0, listed, a => Region.ready md ops listed = [] ∧ ∀ w, C w → Q .normal a w
  | C, fuel + 1, listed, a =>
    (Region.ready md ops listed = [] → ∀ w, C w → Q .normal a w) ∧
    ∀ j ∈ Region.ready md ops listed, (loud j = true ∧ ∀ w, C w → wpOp P ops Q j (fun a' w' => ∃ C' : World → Prop, (gro j = true → ∀ w, C' w → D w) ∧ C' w' ∧ GD P md ops Q D loud gro C' fuel (listed.setIfInBounds j true) a') a w) ∨
      (loud j = false ∧ ∃ oj v, ops[j]? = some oj ∧ YieldsIn P ops C oj v a ∧ GD P md ops Q D loud gro C fuel (listed.setIfInBounds j true) (a.put oj.dst v))
theorem GD.any {D : World → Prop} {loud gro : Nat → Bool} : ∀ {fuel : Nat} {C : World → Prop} {listed : Array Bool} {a : Act}, GD P md ops Q D loud gro C fuel listed a → ∀ w, C w → wpAny P md ops Q fuel listed a w
  | 0, C, _, _, h, w, hw => ⟨h.1, h.2 w hw⟩
  | fuel + 1, C, listed, a, h, w, hw => by
    refine ⟨fun h0 => h.1 h0 w hw, fun j hj => ?_⟩
    rcases h.2 j hj with ⟨_, h1⟩ | ⟨_, oj, v, ho, hy, hg⟩
    · exact wpOp_mono (fun a' w' ⟨C', _, hC', hk⟩ => hk.any w' hC') (h1 w hw)
    · exact wpOp_of_qOp (K := GD P md ops Q D loud gro C fuel (listed.setIfInBounds j true)) hw (fun a' w' hw' hk => hk.any w' hw') (hy.qOp ho hg)
theorem GD.first {D : World → Prop} {loud gro : Nat → Bool} {i : Nat} {oi : Oper} {v : Value} (hi : ops[i]? = some oi) (hsel : ∀ (j : Nat) (o : Oper) cs b, ops[j]? = some o → o.op ≠ .select cs b) (hQ : ∀ c a w, ¬ Q (.panic c) a w) (hil : loud i = false) :
    ∀ (fuel : Nat) (C : World → Prop) (listed : Array Bool) (a : Act), Closed md ops listed →
      (∀ j oj, ops[j]? = some oj → j ≠ i → listed.getD j true = false → (∀ e ∈ oj.after, Region.binds md e = true → e.on ≠ i) → oi.apart ops oj = true) →
      i ∈ Region.ready md ops listed → YieldsIn P ops C oi v a →
      (Yields P ops oi v a ∨ (∀ j, loud j = true → listed.getD j true = false → ∃ f, waitsB md ops i f j = true) ∨ (YieldsIf P ops D oi v a ∧ ∀ j, loud j = true → listed.getD j true = false → gro j = true ∨ ∃ f, waitsB md ops i f j = true)) →
      GD P md ops Q D loud gro C fuel (listed.setIfInBounds i true) (a.put oi.dst v) → GD P md ops Q D loud gro C (fuel + 1) listed a := by
  intro fuel
  induction fuel with
  | zero =>
    intro C listed a inv _ hr hy _ hg
    refine ⟨fun h => (by rw [h] at hr; cases hr), fun j hj => ?_⟩
    by_cases hji : j = i
    · subst hji; exact .inr ⟨hil, oi, v, hi, hy, hg⟩
    · have := ready_mono hj hji
      rw [hg.1] at this
      cases this
  | succ fuel ih =>
    intro C listed a inv hfree hr hy hp hg
    refine ⟨fun h => (by rw [h] at hr; cases hr), fun j hj => ?_⟩
    by_cases hji : j = i
    · subst hji; exact .inr ⟨hil, oi, v, hi, hy, hg⟩
    · obtain ⟨hjun, oj, hoj, hall⟩ := mem_ready.1 hj
      have hiun := (mem_ready.1 hr).1
      have hnot : ∀ e ∈ oj.after, Region.binds md e = true → e.on ≠ i := fun e he hb heq => by
        have h1 := hall e he hb
        rw [heq, getDb hiun] at h1
        cases h1
      have hap := hfree j oj hoj hji hjun hnot
      obtain ⟨h1, h2, h3⟩ := Oper.apart_spec hap
      have hfree' : ∀ k ok, ops[k]? = some ok → k ≠ i → (listed.setIfInBounds j true).getD k true = false →
          (∀ e ∈ ok.after, Region.binds md e = true → e.on ≠ i) → oi.apart ops ok = true := fun k ok hk hki hun hno => by
        refine hfree k ok hk hki ?_ hno
        by_cases hjk : j = k
        · subst hjk; exact hjun
        · rw [getD_set_ne true hjk] at hun; exact hun
      have hun' : ∀ k, (listed.setIfInBounds j true).getD k true = false → listed.getD k true = false := fun k hun => by
        by_cases hjk : j = k
        · subst hjk; exact hjun
        · rw [getD_set_ne true hjk] at hun; exact hun
      rcases hg.2 j (ready_mono hj hji) with ⟨hl, hw⟩ | ⟨hl, oj', u, hoj', hyj, hgj⟩
      · rcases hp with hp | hp | ⟨hp, hpg⟩
        · refine .inl ⟨hl, fun w hC => ?_⟩
          have h4 := wpOp_put hoj hap (fun cs b => hsel i oi cs b hi) (fun cs b => hsel j oj cs b hoj) (fun c a w h => absurd h (hQ c _ w)) hp (hw w hC)
          refine wpOp_mono (fun a' w' ⟨hy', C', hs, hC', hk⟩ => ⟨C', hs, hC', ?_⟩) h4
          rw [← Array.setIfInBounds_comm _ _ hji] at hk
          exact ih C' (listed.setIfInBounds j true) a' (inv.set hj) hfree' (ready_mono hr (Ne.symm hji)) (by
            rcases hy' with ⟨h1, h2⟩ | h1
            · exact .inl ⟨h1, fun w _ => by unfold Oper.quietAt; rw [h2 w]; exact ⟨rfl, rfl⟩⟩
            · exact .inr h1) (.inl hy') hk
        · obtain ⟨fl, hwt⟩ := hp j hl hjun
          have := waitsB_ready inv hwt hj
          rw [getDb hiun] at this
          cases this
        · rcases hpg j hl hjun with hgj | ⟨fl, hwt⟩
          · refine .inl ⟨hl, fun w hC => ?_⟩
            have h4 := wpOp_putIf (S := D) hoj hap (fun cs b => hsel i oi cs b hi) (fun cs b => hsel j oj cs b hoj) (fun c a w h => absurd h (hQ c _ w)) hp (hw w hC)
            refine wpOp_mono (fun a' w' ⟨hy', C', hs, hC', hk⟩ => ⟨C', hs, hC', ?_⟩) h4
            rw [← Array.setIfInBounds_comm _ _ hji] at hk
            have hy2 : YieldsIf P ops C' oi v a' := by
              rcases hy' with ⟨h1, h2⟩ | h1
              · exact .inl ⟨h1, fun w hw => h2 w (hs hgj w hw)⟩
              · exact .inr h1
            exact ih C' (listed.setIfInBounds j true) a' (inv.set hj) hfree' (ready_mono hr (Ne.symm hji)) (by
              rcases hy2 with ⟨h1, h2⟩ | h1
              · exact .inl ⟨h1, fun w hw => by unfold Oper.quietAt; rw [h2 w hw]; exact ⟨rfl, rfl⟩⟩
              · exact .inr h1) (.inr (.inr ⟨hy', fun k hk hun => hpg k hk (hun' k hun)⟩)) hk
          · have := waitsB_ready inv hwt hj
            rw [getDb hiun] at this
            cases this
      · have : oj' = oj := Option.some.inj (hoj'.symm.trans hoj)
        subst this
        have hyj' : YieldsIn P ops C oj' u a := hyj.of_same (execOp_put oj' (fun cs b => hsel j oj' cs b hoj) a oi.dst v h1).symm (wanted_put oj' a oi.dst v h1).symm
        refine .inr ⟨hl, oj', u, hoj, hyj', ?_⟩
        refine ih C (listed.setIfInBounds j true) (a.put oj'.dst u) (inv.set hj) hfree' (ready_mono hr (Ne.symm hji))
          (hy.of_same (execOp_put oi (fun cs b => hsel i oi cs b hi) a oj'.dst u h3) (wanted_put oi a oj'.dst u h3)) ?_ ?_
        · rcases hp with hp | hp | ⟨hp, hpg⟩
          · exact .inl (hp.of_same (execOp_put oi (fun cs b => hsel i oi cs b hi) a oj'.dst u h3) (wanted_put oi a oj'.dst u h3))
          · exact .inr (.inl fun k hk hun => hp k hk (hun' k hun))
          · exact .inr (.inr ⟨hp.of_same (execOp_put oi (fun cs b => hsel i oi cs b hi) a oj'.dst u h3) (wanted_put oi a oj'.dst u h3), fun k hk hun => hpg k hk (hun' k hun)⟩)
        · rw [Array.setIfInBounds_comm _ _ hji, ← Act.put_comm a v u h2]
          exact hgj
theorem loud_step {D C : World → Prop} {loud gro : Nat → Bool} {k : Nat} {o : Oper} {listed : Array Bool} {a : Act} {n : Nat} (hlk : loud k = true) (hr : Region.ready md ops listed = [k]) (h0 : ops[k]? = some o)
    (h : ∀ w, C w → lop P ops Q o (fun a' w' => ∃ C' : World → Prop, (gro k = true → ∀ w, C' w → D w) ∧ C' w' ∧ GD P md ops Q D loud gro C' n (listed.setIfInBounds k true) a') a w) : GD P md ops Q D loud gro C (n + 1) listed a := by
  refine ⟨fun he => (by rw [hr] at he; cases he), fun j hj => ?_⟩
  rw [hr] at hj
  have hjk : j = k := by simpa using hj
  subst hjk
  refine .inl ⟨hlk, fun w hC => ?_⟩
  have hlop := h w hC
  unfold wpOp
  simp only [h0]
  unfold lop at hlop
  split
  · rename_i hg; rw [if_pos hg] at hlop; exact .inl hlop
  · rename_i hg; rw [if_neg hg] at hlop; exact hlop
end
end Go.Cx
namespace Go.Cx
open Go Go.RowKit Go.Maps
set_option linter.unusedVariables false
set_option linter.unusedSimpArgs false
section
variable {P : Program} {κ β : Type} [DecidableEq κ] {k : TypeId} {ek : κ → Value} {ev : β → Value}
def mget (m : List (κ × β)) (x : κ) : Option β := (m.find? fun p => decide (p.1 = x)).map (·.2)
def mput (m : List (κ × β)) (x : κ) (y : β) : List (κ × β) := if (m.map (·.1)).contains x then m.map (fun p => if p.1 = x then (x, y) else p) else m ++ [(x, y)]
structure MapT (P : Program) (k : TypeId) (ek : κ → Value) (ev : β → Value) (m : List (κ × β)) (b : Nat) (h : Heap) : Prop where
  row : ∃ es clock, h = [(b, .map ⟨es⟩ clock)] ∧ es.map (fun e => (e.key, e.val)) = m.map (fun p => (ek p.1, ev p.2)) ∧ MapKept.Stamped ⟨es⟩ clock
  keys : ∀ p, p ∈ m → ∃ l, keyOf P k (ek p.1) = some l
  nodup : (m.map (·.1)).Nodup
theorem mget_of (m : List (κ × β)) (hn : (m.map (·.1)).Nodup) : ∀ p, p ∈ m → mget m p.1 = some p.2 := by
  induction m with
  | nil => intro p hp; cases hp
  | cons q m ih =>
    intro p hp
    rw [List.map_cons, List.nodup_cons] at hn
    unfold mget
    rw [List.find?_cons]
    rcases List.mem_cons.1 hp with rfl | hp
    · simp
    · have hne : q.1 ≠ p.1 := fun e => hn.1 (e ▸ List.mem_map_of_mem hp)
      rw [decide_eq_false hne]
      exact ih hn.2 p hp
theorem mget_none (m : List (κ × β)) (x : κ) (h : ∀ p, p ∈ m → p.1 ≠ x) : mget m x = none := by
  unfold mget
  rw [List.find?_eq_none.2 (fun p hp => by simpa using h p hp)]
  rfl
theorem MapT.find {m : List (κ × β)} {b : Nat} {h : Heap} (K : Keyed P k) (inj : ∀ x y, ek x = ek y → x = y) (mt : MapT P k ek ev m b h) (x : κ) (hx : ∃ l, keyOf P k (ek x) = some l) {es : List MapEntry} {clock : Nat} (he : h = [(b, .map ⟨es⟩ clock)]) (w : World) :
    (Instr.findKey k (ek x) es).run P w = .ok none w ∧ mget m x = none ∨ ∃ j y, (Instr.findKey k (ek x) es).run P w = .ok (some (j, ev y)) w ∧ mget m x = some y ∧ m[j]? = some (x, y) := by
  obtain ⟨es', clock', he', hrow, _⟩ := mt.row
  rw [he] at he'
  simp only [List.cons.injEq, Prod.mk.injEq, Obj.map.injEq, and_true, true_and] at he'
  obtain ⟨e1, rfl⟩ := he'
  have e1' : es = es' := by simpa using e1
  subst e1'
  obtain ⟨l, hl⟩ := hx
  have hat : ∀ (j : Nat) (e : MapEntry), es[j]? = some e → ∃ p : κ × β, m[j]? = some p ∧ e.key = ek p.1 ∧ e.val = ev p.2 := fun j e hj => by
    have h1 : (es.map (fun e => (e.key, e.val)))[j]? = some (e.key, e.val) := by rw [List.getElem?_map, hj]; rfl
    rw [hrow, List.getElem?_map] at h1
    cases hm : m[j]? with
    | none => rw [hm] at h1; cases h1
    | some p => rw [hm] at h1; simp at h1; exact ⟨p, rfl, h1.1.symm, h1.2.symm⟩
  have hks : ∀ e : MapEntry, e ∈ es → ∃ l, keyOf P k e.key = some l := fun e hm => by
    obtain ⟨j, hj⟩ := List.getElem?_of_mem hm
    obtain ⟨p, hp, hk, _⟩ := hat j e hj
    rw [hk]; exact mt.keys p (List.mem_of_getElem? hp)
  rcases K.find w hl es hks with ⟨h1, h2⟩ | ⟨j, e, h1, h2, h3⟩
  · refine .inl ⟨h1, mget_none m x fun p hp hpx => ?_⟩
    obtain ⟨j, hj⟩ := List.getElem?_of_mem hp
    have h4 : (es.map (fun e => (e.key, e.val)))[j]? = some (ek p.1, ev p.2) := by rw [hrow, List.getElem?_map, hj]; rfl
    rw [List.getElem?_map] at h4
    cases hm : es[j]? with
    | none => rw [hm] at h4; cases h4
    | some e => rw [hm] at h4; simp at h4; exact h2 e (List.mem_of_getElem? hm) (by rw [h4.1, hpx])
  · obtain ⟨p, hp, hk, hv⟩ := hat j e h2
    have : p.1 = x := inj _ _ (by rw [← hk, h3])
    refine .inr ⟨j, p.2, by rw [h1, hv], ?_, ?_⟩
    · rw [← this]; exact mget_of m mt.nodup p (List.mem_of_getElem? hp)
    · rw [hp, ← this]
theorem MapT.lookup {m : List (κ × β)} {b : Nat} {h : Heap} {t e : TypeId} {z : Value} (K : Keyed P k) (inj : ∀ x y, ek x = ek y → x = y) (mt : MapT P k ek ev m b h) (ht : P.underlying t = some (.map k e)) (x : κ) (hx : ∃ l, keyOf P k (ek x) = some l) (w : World) (hw : Holds h w) (hz : (zeroValue e).run P w = .ok z w) (c : Bool) :
    (Instr.lookup t (.map (some b)) (ek x) c).run P w = .ok (if c then .tuple #[(match mget m x with | some y => ev y | none => z), .bool (mget m x).isSome] else (match mget m x with | some y => ev y | none => z)) w := by
  obtain ⟨es, clock, he, hrow, hst⟩ := mt.row
  have hb : w.heap[b]? = some (.map ⟨es⟩ clock) := hw (b, _) (by rw [he]; simp)
  obtain ⟨l, hl⟩ := hx
  rcases mt.find K inj x ⟨l, hl⟩ he w with ⟨h1, h2⟩ | ⟨j, y, h1, h2, h3⟩
  · cases c <;> simp [Instr.lookup, run_underlying ht, MapKept.run_getObj_map hb, K.check w _ hl, h1, h2, hz, Result.andThen]
  · cases c <;> simp [Instr.lookup, run_underlying ht, MapKept.run_getObj_map hb, K.check w _ hl, h1, h2, Result.andThen]
theorem set_put (m : List (κ × β)) (hn : (m.map (·.1)).Nodup) (x : κ) (y y0 : β) : ∀ (j : Nat), m[j]? = some (x, y0) → m.set j (x, y) = m.map (fun p => if p.1 = x then (x, y) else p) := by
  induction m with
  | nil => intro j hj; cases hj
  | cons q m ih =>
    rw [List.map_cons, List.nodup_cons] at hn
    intro j hj
    cases j with
    | zero =>
      have hq : q = (x, y0) := by simpa using hj
      subst hq
      have hm : m.map (fun p => if p.1 = x then (x, y) else p) = m := by
        conv => rhs; rw [← List.map_id m]
        apply List.map_congr_left
        intro p hp
        have hne : p.1 ≠ x := fun e => hn.1 (by
          have := List.mem_map_of_mem (f := (·.1)) hp
          rw [e] at this
          exact this)
        rw [if_neg hne]; rfl
      rw [List.set_cons_zero, List.map_cons, hm, if_pos rfl]
    | succ j =>
      have hj' : m[j]? = some (x, y0) := by simpa using hj
      have hne : q.1 ≠ x := fun e => hn.1 (by
        rw [e]
        have := List.mem_map_of_mem (f := (·.1)) (List.mem_of_getElem? hj')
        exact this)
      rw [List.set_cons_succ, List.map_cons, if_neg hne, ih hn.2 j hj']
theorem mput_keys (m : List (κ × β)) (x : κ) (y : β) : (mput m x y).map (·.1) = if (m.map (·.1)).contains x then m.map (·.1) else m.map (·.1) ++ [x] := by
  unfold mput
  split
  · rw [List.map_map]
    apply List.map_congr_left
    intro p _
    show (if p.1 = x then (x, y) else p).1 = p.1
    split
    · rename_i h; exact h.symm
    · rfl
  · rw [List.map_append]; rfl
theorem MapT.update {m : List (κ × β)} {b : Nat} {h : Heap} {t e : TypeId} {w0 w : World} {R : Heap} {L : List Heap} (K : Keyed P k) (inj : ∀ x y, ek x = ek y → x = y) (mt : MapT P k ek ev m b h) (ht : P.underlying t = some (.map k e)) (x : κ) (hx : ∃ l, keyOf P k (ek x) = some l) (y : β) (hw : H w0 R (h :: L) w) :
    ∃ w' h', (Instr.mapUpdate t (.map (some b)) (ek x) (ev y)).run P w = .ok () w' ∧ H w0 R (h' :: L) w' ∧ MapT P k ek ev (mput m x y) b h' := by
  obtain ⟨es, clock, he, hrow, hst⟩ := mt.row
  have hb : w.heap[b]? = some (.map ⟨es⟩ clock) := hw.rd (Rd.fr (by rw [he]; simp))
  have hlt : b < w.heap.size := (Array.getElem?_eq_some_iff.1 hb).1
  obtain ⟨l, hl⟩ := hx
  have hkeys : ∀ p, p ∈ mput m x y → ∃ l, keyOf P k (ek p.1) = some l := fun p hp => by
    have hp1 : p.1 ∈ (mput m x y).map (·.1) := List.mem_map_of_mem hp
    rw [mput_keys] at hp1
    have hold : p.1 ∈ m.map (·.1) → ∃ l, keyOf P k (ek p.1) = some l := fun h => by
      obtain ⟨q, hq, hq1⟩ := List.mem_map.1 h
      rw [← hq1]; exact mt.keys q hq
    split at hp1
    · exact hold hp1
    · rcases List.mem_append.1 hp1 with h | h
      · exact hold h
      · rw [List.mem_singleton.1 h]; exact ⟨l, hl⟩
  have hnd : ((mput m x y).map (·.1)).Nodup := by
    rw [mput_keys]
    split
    · exact mt.nodup
    · rename_i hc
      have hc' : x ∉ m.map (·.1) := by simpa using hc
      rw [List.nodup_append]
      exact ⟨mt.nodup, by simp, fun a ha c hc2 => by rw [List.mem_singleton.1 hc2]; exact fun e => hc' (e ▸ ha)⟩
  have hwr : ∀ o', H w0 R ([(b, o')] :: L) { w with heap := w.heap.setIfInBounds b o' } := fun o' => by
    rw [he] at hw
    exact hw.write rfl rfl rfl (by simp) (by simp [hlt]) (fun j hj => by simp [Array.getElem?_setIfInBounds, Ne.symm hj])
  rcases mt.find K inj x ⟨l, hl⟩ he w with ⟨h1, h2⟩ | ⟨j, y0, h1, h2, h3⟩
  · refine ⟨_, _, by simp [Instr.mapUpdate, run_underlying ht, MapKept.run_getObj_map hb, K.check w _ hl, h1, MapKept.run_setObj_map _ hb, Result.andThen]; rfl, hwr _, ⟨es ++ [⟨ek x, ev y, clock⟩], clock + 1, by simp, ?_, ?_⟩, hkeys, hnd⟩
    rotate_left
    · have hk2 : ∀ z ∈ (⟨es⟩ : Array MapEntry).toList, z.key ≠ ek x := fun z hz e => by
        obtain ⟨j, hj⟩ := List.getElem?_of_mem hz
        have h4 : (m.map (fun p => (ek p.1, ev p.2)))[j]? = some (z.key, z.val) := by rw [← hrow, List.getElem?_map]; rw [show es[j]? = some z from hj]; rfl
        rw [List.getElem?_map] at h4
        cases hm : m[j]? with
        | none => rw [hm] at h4; cases h4
        | some p =>
          rw [hm] at h4
          simp at h4
          have : p.1 = x := inj _ _ (h4.1.trans e)
          rw [← this, mget_of m mt.nodup p (List.mem_of_getElem? hm)] at h2
          cases h2
      have := MapKept.stamped_push hst (key := ek x) (val := ev y) hk2
      simpa using this
    have hc : (m.map (·.1)).contains x = false := by
      have : x ∉ m.map (·.1) := fun hmem => by
        obtain ⟨q, hq, hq1⟩ := List.mem_map.1 hmem
        rw [← hq1, mget_of m mt.nodup q hq] at h2
        cases h2
      simpa using this
    unfold mput
    rw [hc, if_neg (by decide), List.map_append, List.map_append, hrow]; rfl
  · have hjl : j < es.length := by
      have h4 : (m.map (fun p => (ek p.1, ev p.2)))[j]? = some (ek x, ev y0) := by rw [List.getElem?_map, h3]; rfl
      rw [← hrow, List.getElem?_map] at h4
      rcases Nat.lt_or_ge j es.length with h | h
      · exact h
      · rw [List.getElem?_eq_none h] at h4; cases h4
    have hkj : es[j].key = ek x := by
      have h4 : (m.map (fun p => (ek p.1, ev p.2)))[j]? = some (ek x, ev y0) := by rw [List.getElem?_map, h3]; rfl
      rw [← hrow, List.getElem?_map, List.getElem?_eq_getElem hjl] at h4
      simp at h4
      exact h4.1
    have hc : (m.map (·.1)).contains x = true := by
      have := List.mem_map_of_mem (f := (·.1)) (List.mem_of_getElem? h3)
      simpa using this
    refine ⟨_, _, by simp [Instr.mapUpdate, run_underlying ht, MapKept.run_getObj_map hb, K.check w _ hl, h1, hjl, hkj, K.stays w hl, MapKept.run_setObj_map _ hb, Result.andThen]; rfl, hwr _, ⟨es.modify j fun e => { e with key := ek x, val := ev y }, clock, by simp, ?_, ?_⟩, hkeys, hnd⟩
    rotate_left
    · have := MapKept.stamped_modify hst j (fun e => { e with key := ek x, val := ev y }) (fun e _ => rfl) (fun e _ he2 => by
        have h5 : es[j]? = some e := by simpa using he2
        rw [List.getElem?_eq_getElem hjl] at h5
        have := Option.some.inj h5
        rw [← this]; exact hkj.symm)
      simpa using this
    unfold mput
    rw [hc, if_pos rfl, ← set_put m mt.nodup x y y0 j h3, List.map_set, ← hrow]
    apply List.ext_getElem?
    intro i
    rw [List.getElem?_map, List.getElem?_modify, List.getElem?_set, List.getElem?_map]
    by_cases hij : j = i
    · subst hij; simp [hjl]
    · simp [hij]
end
section
variable {P : Program} {n : Nat} {w0 : World} {R : Heap} {K0 : Exit → Fr → List Heap → Prop} {f : Fr} {L : List Heap} {l0 : List Oper} {rest : List (Nat × Oper)} {q : Nat}
variable {Γ : List (Nat × TI)} {d : Nat} {ty : TypeId} {pos : String} {aft : Array Edge} {g : Option (Nat × Bool)}
variable {κ β : Type} [DecidableEq κ] {kt e : TypeId} {ek : κ → Value} {ev : β → Value}
theorem J.lk {t : TypeId} {m x : Operand} {c : Bool} {mm : List (κ × β)} {b : Nat} {h : Heap} {a : κ} {z : Value} {s1 s2 b1 b2 : Nat} {z1 : Option Value} {de : TypeDesc} (K : Keyed P kt) (inj : ∀ x y, ek x = ek y → x = y) (mt : MapT P kt ek ev mm b h) (hr : RdH R L h) (hkey : ∃ l, keyOf P kt (ek a) = some l) (hΓ : Fits P Γ)
    (k : J P n w0 R l0 K0 rest (upd f d (if c then .tuple #[(match mget mm a with | some y => ev y | none => z), .bool (mget mm a).isSome] else (match mget mm a with | some y => ev y | none => z))) L)
    (hg : wantB n f l0 ⟨some d, .lookup t m x c, ty, pos, aft, g⟩ = true := by exact rfl) (hm : Cx.ev n f m = .map (some b) := by exact rfl) (hx : Cx.ev n f x = ek a := by exact rfl) (ht : look Γ t = some ⟨.map kt e, s1, z1, b1⟩ := by exact rfl) (he : look Γ e = some ⟨de, s2, some z, b2⟩ := by exact rfl) :
    J P n w0 R l0 K0 ((q + 1, ⟨some d, .lookup t m x c, ty, pos, aft, g⟩) :: rest) f L := by
  obtain ⟨_, ie, hie, _, hze, _⟩ := hΓ e _ he
  have hzr : ∀ w, (zeroValue e).run P w = .ok z w := fun w => by simp [zeroValue, typeInfo, hie, hze, go_sem]
  refine J.q hg (fun w hw => ?_) k
  have := mt.lookup K inj (hΓ t _ ht).1 a hkey w (hw.rdH hr) (hzr w) c
  simp only [execOp, hm, hx, Sem.run_bind]
  rw [this]
  rfl
theorem J.mup {t : TypeId} {m x v : Operand} {mm : List (κ × β)} {b : Nat} {h : Heap} {a : κ} (y : β) {s1 b1 : Nat} {z1 : Option Value} (K : Keyed P kt) (inj : ∀ x y, ek x = ek y → x = y) (mt : MapT P kt ek ev mm b h) (hkey : ∃ l, keyOf P kt (ek a) = some l) (hΓ : Fits P Γ)
    (k : ∀ h', MapT P kt ek ev (mput mm a y) b h' → J P n w0 R l0 K0 rest f (h' :: L))
    (hg : wantB n f l0 ⟨none, .mapUpdate t m x v, ty, pos, aft, g⟩ = true := by exact rfl) (hm : Cx.ev n f m = .map (some b) := by exact rfl) (hx : Cx.ev n f x = ek a := by exact rfl) (hv : Cx.ev n f v = ev y := by exact rfl) (ht : look Γ t = some ⟨.map kt e, s1, z1, b1⟩ := by exact rfl) :
    J P n w0 R l0 K0 ((2, ⟨none, .mapUpdate t m x v, ty, pos, aft, g⟩) :: rest) f (h :: L) := fun ac ha w hC => by
  have hw : Region.wanted (⟨none, .mapUpdate t m x v, ty, pos, aft, g⟩ : Oper) (yielded l0.toArray ac.tmps) = true := by rw [ha.wanted, hg]
  obtain ⟨w', h', hrun, hH, mt'⟩ := mt.update K inj (hΓ t _ ht).1 a hkey y hC
  unfold lop
  rw [if_pos hw]
  unfold Oper.wp
  rw [ha.eval]
  simp only [execOp, hm, hx, hv, Sem.run_bind, hrun]
  exact ⟨_, fun h => absurd rfl h, hH, k h' mt' _ (ha.put none undef)⟩
omit [DecidableEq κ] in
theorem MapT.nil (b : Nat) : MapT P kt ek ev ([] : List (κ × β)) b [(b, .map ⟨[]⟩ 0)] := ⟨⟨[], 0, rfl, rfl, MapKept.stamped_empty 0⟩, fun p hp => (by cases hp), List.nodup_nil⟩
theorem J.mkm {t : TypeId} (k : ∀ b, J P n w0 R l0 K0 rest (upd f d (.map (some b))) ([(b, .map ⟨[]⟩ 0)] :: L)) (hg : wantB n f l0 ⟨some d, .makeMap t none, ty, pos, aft, g⟩ = true := by exact rfl) :
    J P n w0 R l0 K0 ((q + 2, ⟨some d, .makeMap t none, ty, pos, aft, g⟩) :: rest) f L :=
  J.vg (Φ := fun v h => ∃ b, v = .map (some b) ∧ h = [(b, .map ⟨[]⟩ 0)]) hg
    (fun w hw => ⟨.map (some w.heap.size), _, _, by simp only [execOp, Sem.run_bind, Option.map_none]; rw [run_makeMap]; rfl, hw.alloc _, w.heap.size, rfl, rfl⟩)
    (fun v L' ⟨b, h1, h2⟩ => by subst h1; subst h2; exact k b)
omit [DecidableEq κ] in
end
end Go.Cx
namespace Go.Cx
open Go Go.RowKit Go.Maps Go.WideElems
set_option linter.unusedVariables false
set_option linter.unusedSimpArgs false
section
variable {P : Program} {κ β : Type} {k : TypeId} {ek : κ → Value} {ev : β → Value}
theorem H.grew {w0 w w' : World} {R : Heap} {L : List Heap} {b : Nat} {o o' : Obj} (h : H w0 R ([(b, o)] :: L) w) (hg : w.grownBy w' (some b)) (hb : w'.heap[b]? = some o') : H w0 R ([(b, o')] :: L) w' := by
  have hgB : w0.heap.size ≤ b := h.new (b, o) (by simp)
  have hnd : (b :: L.flatten.map (·.1)).Nodup := by simpa using h.nodup
  have hng : ∀ x, x ∈ L.flatten → x.1 ≠ b := fun x hx e => (List.nodup_cons.1 hnd).1 (List.mem_map.2 ⟨x, hx, e⟩)
  have hsz := h.below.size
  refine ⟨?_, h.old, ?_, ?_, ?_⟩
  · exact h.below.trans ⟨hg.os, hg.tape, hg.output, hg.size, fun i hi => hg.block i (by omega) (fun e => by cases e; omega)⟩
  · intro x hx
    simp only [List.flatten_cons, List.mem_append, List.mem_singleton] at hx
    rcases hx with rfl | hx
    · exact hb
    · have h1 := h.own x (List.mem_append_right _ hx)
      have h2 := (Array.getElem?_eq_some_iff.1 h1).1
      rw [hg.block _ h2 (fun e => hng x hx (Option.some.inj e))]
      exact h1
  · intro x hx
    simp only [List.flatten_cons, List.mem_append, List.mem_singleton] at hx
    rcases hx with rfl | hx
    · exact hgB
    · exact h.new x (List.mem_append_right _ hx)
  · simpa using hnd
end
end Go.Cx
namespace Go.Cx
open Go Go.RowKit
set_option linter.unusedVariables false
set_option linter.unusedSimpArgs false
theorem H.turn {w0 w : World} {R : Heap} {L : List Heap} {b : Nat} {o : Obj} (o' : Obj) (h : H w0 R ([(b, o)] :: L) w) : H w0 R ([(b, o')] :: L) (w.putObj b o') := by
  have hb := h.rd (Rd.hd (R := R) (L := L) (g := b) (o := o))
  exact h.grew (grownBy_putObj' w b o') (World.putObj_heap_same (Array.getElem?_eq_some_iff.1 hb).1)
section
variable {m : Nat} {P : Program} {n : Nat} {w0 : World} {R : Heap} {f : Fr} {L : List Heap} {l : Nat} {r : Loop}
def rndK (w0 : World) (R : Heap) (l : Nat) (r : Loop) (Φ : Value → List Heap → Prop) : Exit → Fr → List Heap → Prop
  | .normal, _, L => ∃ L2, (∀ w, H w0 R L w → H w0 R ([(l, .loop { r with state := .busy })] :: L2) w) ∧ Φ (.bool true) ([(l, .loop { r with state := .ready, pending := none })] :: L2)
  | .ret, _, L => ∃ L2, (∀ w, H w0 R L w → H w0 R ([(l, .loop { r with state := .busy })] :: L2) w) ∧ Φ (.bool false) ([(l, .loop { r with state := .done, pending := some .ret })] :: L2)
  | .exit id, _, L => ∃ L2, (∀ w, H w0 R L w → H w0 R ([(l, .loop { r with state := .busy })] :: L2) w) ∧ Φ (.bool false) ([(l, .loop { r with state := .done, pending := some (.exit id) })] :: L2)
  | _, _, _ => False
def asgK (m : Nat) (P : Program) (n : Nat) (w0 : World) (R : Heap) (l : Nat) (r : Loop) (Φ : Value → List Heap → Prop) : Exit → Fr → List Heap → Prop
  | .normal, f, L => ∃ L2, (∀ w, H w0 R L w → H w0 R ([(l, .loop r)] :: L2) w) ∧ JR (some l) m P n w0 R r.body (rndK w0 R l r Φ) f ([(l, .loop { r with state := .busy })] :: L2)
  | _, _, _ => False
theorem round_any {vs : List Value} {Φ : Value → List Heap → Prop} (hst : r.state = .ready) (hsz : vs.length = r.params.size) (ha0 : Rep n f { tmps := (r.params.zip ⟨vs⟩).foldl (fun tmps (t, a) => tmps.setIfInBounds t a) r.tmps, defers := [] })
    (hasg : JR (some l) m P n w0 R r.assign (asgK m P n w0 R l r Φ) f ([(l, .loop r)] :: L)) {w : World} (hw : H w0 R ([(l, .loop r)] :: L) w) :
    ∃ fn tmps assign body, (Instr.yield l ⟨vs⟩).run P w = .ok (.round l fn tmps assign body) w ∧ RoundIn (FR none) m P l fn tmps assign body w fun e w' => ∃ v L', e = .returned v ∧ H w0 R L' w' ∧ Φ v L' := by
  have hl := hw.rd (Rd.hd (R := R) (L := L) (g := l) (o := .loop r))
  refine ⟨_, _, _, _, run_yield (P := P) (args := ⟨vs⟩) hl hsz, roundIn_of_wpIn (F := FR none) trivial ?_⟩
  refine wpIn_mono (hasg _ w ha0 hw) ?_
  intro e a1 w1 q
  cases e with
  | normal =>
    obtain ⟨f1, L1, ha1, hw1, L2, hto, hbody⟩ := q
    have hw2 := hto w1 hw1
    have hl2 := hw2.rd (Rd.hd (R := R) (L := L2) (g := l) (o := .loop r))
    refine ⟨_, run_beginRound hl2 hst, ?_⟩
    have hw3 := H.turn (.loop { r with state := .busy }) hw2
    refine wpIn_mono (hbody a1 _ ha1 hw3) ?_
    intro e a3 w3 q
    have fin : ∀ (jump : Option Code) (L4 : List Heap), H w0 R ([(l, .loop { r with state := .busy })] :: L4) w3 →
        (Instr.endRound l jump).run P w3 = .ok (.bool jump.isNone) (w3.putObj l (.loop { r with state := if jump.isNone then .ready else .done, pending := jump })) ∧ H w0 R ([(l, .loop { r with state := if jump.isNone then .ready else .done, pending := jump })] :: L4) (w3.putObj l (.loop { r with state := if jump.isNone then .ready else .done, pending := jump })) := fun jump L4 h4 =>
      ⟨run_endRound (r := { r with state := .busy }) jump (h4.rd (Rd.hd (R := R) (L := L4) (g := l) (o := .loop { r with state := .busy }))), H.turn _ h4⟩
    cases e with
    | normal =>
      obtain ⟨f3, L3, ha3, hw3, L4, hto, hP⟩ := q
      obtain ⟨h1, h2⟩ := fin none L4 (hto _ hw3)
      exact ⟨_, _, h1, _, _, rfl, h2, hP⟩
    | ret =>
      obtain ⟨f3, L3, ha3, hw3, L4, hto, hP⟩ := q
      obtain ⟨h1, h2⟩ := fin (some .ret) L4 (hto _ hw3)
      exact ⟨_, _, h1, _, _, rfl, h2, hP⟩
    | exit id =>
      obtain ⟨f3, L3, ha3, hw3, L4, hto, hP⟩ := q
      obtain ⟨h1, h2⟩ := fin (some (.exit id)) L4 (hto _ hw3)
      exact ⟨_, _, h1, _, _, rfl, h2, hP⟩
    | goto t => obtain ⟨_, _, _, _, q⟩ := q; exact q.elim
    | panic c => obtain ⟨_, _, _, _, q⟩ := q; exact q.elim
    | outgrown => exact q.elim
  | ret => obtain ⟨_, _, _, _, q⟩ := q; exact q.elim
  | exit id => obtain ⟨_, _, _, _, q⟩ := q; exact q.elim
  | goto t => obtain ⟨_, _, _, _, q⟩ := q; exact q.elim
  | panic c => obtain ⟨_, _, _, _, q⟩ := q; exact q.elim
  | outgrown => exact q.elim
def recL (fn : FuncId) (tmps : Array Value) (ps : Array Tmp) (assign body : Code) (D : Nat) : Loop := { state := .ready, pending := none, fn, tmps, params := ps, assign, body, defers := D }
theorem rangeF_any {g : Operand} {ps : Array Tmp} {assign body : Code} {gf : FuncId} {lb : List Value} {Q : Exit → Act → World → Prop} {Ψ : List Heap → Prop} (hg : Cx.ev n f g = .func (.func gf) ⟨[]⟩ ⟨lb⟩) (he : Entr P gf)
    (hit : ∀ (fn D : Nat) (tmps : Array Value) (w1 : World), Rep n f { tmps := tmps, defers := [] } → H w0 R ([(D + 1, .loop (recL fn tmps ps assign body D))] :: [(D, .deferred (some []))] :: L) w1 →
      CallsIn (FR none) (m - 1) P gf ⟨.func (.yield (D + 1)) ⟨[]⟩ ⟨[]⟩ :: lb⟩ w1 fun e w' => ∃ v L', e = .returned v ∧ H w0 R ([(D + 1, .loop (recL fn tmps ps assign body D))] :: [(D, .deferred (some []))] :: L') w' ∧ Ψ L')
    (hk : ∀ (D : Nat) L', Ψ L' → ∀ a w, Rep n f a → H w0 R ([(D, .deferred (some []))] :: L') w → Q .normal (dfr [{ target := .collected D, args := #[] }] a) w)
    {a : Act} {w : World} (ha : Rep n f a) (hw : H w0 R L w) : (Code.rangeFunc g ps assign body).wpIn (FR none) m P Q a w := by
  refine wpIn_rangeFunc fun fn _ => ?_
  have h1 := hw.alloc (.deferred (some []))
  have h2 := h1.alloc (.loop (recL fn a.tmps ps assign body w.heap.size))
  rw [World.size_alloc] at h2
  have ha2 : Rep n f { tmps := a.tmps, defers := [] } := ⟨ha.1, rfl, ha.2.2⟩
  have hda : a.defers = [] := ha.2.1
  have hga : a.eval g = .func (.func gf) ⟨[]⟩ ⟨lb⟩ := by rw [ha.eval]; exact hg
  obtain ⟨W1, hW1⟩ : ∃ W1, (w.alloc (.deferred (some []))).alloc (.loop (recL fn a.tmps ps assign body w.heap.size)) = W1 := ⟨_, rfl⟩
  rw [hW1] at h2
  refine ⟨w.heap.size + 1, [{ target := .collected w.heap.size, args := #[] }], W1, { target := .fn (.func gf) ⟨lb⟩, args := #[.func (.yield (w.heap.size + 1)) #[] #[]] }, W1, gf, ⟨.func (.yield (w.heap.size + 1)) ⟨[]⟩ ⟨[]⟩ :: lb⟩, W1, ?_, ?_, fun _ _ => trivial, ?_, fun h => (by cases h), ?_⟩
  · rw [← hW1]; exact run_enterLoop_outer fn a.tmps ps assign body
  · simp only [resolve, hga]
    simp [go_sem]
  · have := he ⟨.func (.yield (w.heap.size + 1)) ⟨[]⟩ ⟨[]⟩ :: lb⟩ W1
    simpa [invoke, go_sem] using this
  · refine (hit fn w.heap.size a.tmps W1 ha2 h2).mono ?_
    rintro e w' ⟨v, L', rfl, hw', hP⟩
    have hl := hw'.rd (Rd.hd (R := R) (L := [(w.heap.size, .deferred (some []))] :: L') (g := w.heap.size + 1) (o := .loop (recL fn a.tmps ps assign body w.heap.size)))
    refine ⟨none, _, run_endLoop (r := recL fn a.tmps ps assign body w.heap.size) hl (by intro h; cases h), ?_⟩
    have h3 := (H.turn (.loop { recL fn a.tmps ps assign body w.heap.size with state := .exhausted }) hw').drop
    have hd : ({ a with defers := [{ target := .collected w.heap.size, args := #[] }] ++ a.defers } : Act) = dfr [{ target := .collected w.heap.size, args := #[] }] a := by unfold dfr; rw [hda]; rfl
    show Q .normal _ _
    rw [hd]
    exact hk _ _ hP a _ ha h3
theorem leaves_D {fn : Func} {Post : Ending → World → Prop} {D : Nat} {a : Act} {w : World} (ha : Rep n f a) (hw : H w0 R ([(D, .deferred (some []))] :: L) w) (hr : retK P fn n w0 R Post .ret f ([(D, .deferred none)] :: L)) : bodyPostM (FR none) m P fn Post .ret (dfr [{ target := .collected D, args := #[] }] a) w := by
  have hk := hw.rd (Rd.hd (R := R) (L := L) (g := D) (o := .deferred (some [])))
  have hda : (dfr [{ target := .collected D, args := #[] }] a).defers = [{ target := .collected D, args := #[] }] := by
    show a.defers ++ _ = _
    rw [ha.2.1]; rfl
  show LeavesInM (FR none) m P fn _ Post _ .returning w
  rw [hda]
  obtain ⟨v, h1, h2⟩ := hr a _ ha (H.turn (.deferred none) hw)
  exact ⟨(by intro h; cases h), .inl ⟨D, _, rfl, run_takeDeferred hk, ⟨v, h1, h2⟩⟩⟩
theorem calls_of_D {fid : FuncId} {fn : Func} {c : Code} {args : List Value} {Post : Ending → World → Prop} {w : World} (hf : P.funcs[fid]? = some fn) (hn : fn.ntmps = n) (hb : fn.body = some c) (hsz : Nat.ble args.length n = true) (hw : H w0 R L w)
    (h : ∀ a, Rep n (fr0 args) a → c.wpIn (FR none) m P (bodyPostM (FR none) m P fn Post) a w) : Calls P fid args.toArray w Post := by
  have h1 : CallsIn Fence.wide m P fid args.toArray w Post := callsIn_of_wp_marks (F := Fence.wide) hf hb trivial (by
    rw [hn]
    exact h _ (fr0_rep (Nat.le_of_ble_eq_true hsz)))
  exact callsIn_wide.1 h1
def JW (ds : List Deferred) (m : Nat) (P : Program) (n : Nat) (w0 : World) (R : Heap) (c : Code) (Q : Exit → Act → World → Prop) (f : Fr) (L : List Heap) : Prop :=
  ∀ a w, Rep n f a → H w0 R L w → c.wpIn (FR none) m P Q (dfr ds a) w
def toW (m : Nat) (P : Program) (n : Nat) (w0 : World) (R : Heap) (y : Code) (Q : Exit → Act → World → Prop) : Exit → Fr → List Heap → Prop
  | .normal, f, L => JW [] m P n w0 R y Q f L
  | _, _, _ => False
theorem toW.nn {y : Code} {Q : Exit → Act → World → Prop} (h : JW [] m P n w0 R y Q f L) : toW m P n w0 R y Q .normal f L := h
theorem JW.seqC {x y : Code} {Q : Exit → Act → World → Prop} (h : JC P n w0 R x (toW m P n w0 R y Q) f L) : JW [] m P n w0 R (.seq x y) Q f L := fun a w ha hw => by
  rw [dfr_nil]
  refine wpIn_seq (wpIn_mono (wpIn_wide.2 (h a w ha hw) : x.wpIn (FR none) m P _ a w) ?_)
  intro e a' w' q
  cases e with
  | normal =>
    obtain ⟨f', L', ha', hw', hk⟩ := q
    have := hk a' w' ha' hw'
    rw [dfr_nil] at this
    exact this
  | ret => obtain ⟨_, _, _, _, q⟩ := q; exact q.elim
  | exit id => obtain ⟨_, _, _, _, q⟩ := q; exact q.elim
  | goto t => obtain ⟨_, _, _, _, q⟩ := q; exact q.elim
  | panic c => obtain ⟨_, _, _, _, q⟩ := q; exact q.elim
  | outgrown => exact q.elim
theorem JW.ret {ds : List Deferred} {Q : Exit → Act → World → Prop} (h : ∀ a w, Rep n f a → H w0 R L w → Q .ret (dfr ds a) w) : JW ds m P n w0 R .ret Q f L := fun a w ha hw => wpIn_ret (h a w ha hw)
end
end Go.Cx
namespace Go.Cx
open Go Go.RowKit
set_option linter.unusedVariables false
set_option linter.unusedSimpArgs false
section
variable {rd : Option Nat} {m : Nat} {P : Program} {n : Nat} {w0 : World} {R : Heap} {K : Exit → Fr → List Heap → Prop} {f : Fr} {L : List Heap}
theorem roundsR {c : Code} (ws : Nat → Bool) (I : Nat → Fr → List Heap → Prop) (f0 : Fr) (round : ∀ k g L', I k g L' → JR rd m P n w0 R c (loopK ws f0 I k K) (havoc ws f0 g) L') : ∀ k j, j ≤ k → ∀ g L', Ag ws f0 g → I j g L' → ∀ a w, Rep n g a → H w0 R L' w → Code.roundsIn (FR rd) m P c (QW n w0 R K) (k + 1) a w
  | k, j, hj, g, L', hag, hI, a, w, ha, hw => by
    have hr := round j g L' hI
    rw [hag.eq] at hr
    show c.wpIn _ _ _ _ _ _
    refine wpIn_mono (hr a w ha hw) ?_
    intro e a' w' q
    cases e with
    | normal =>
      obtain ⟨f', L'', ha', hw', h1, m', h2, J, L3, hp, h3⟩ := q
      cases k with
      | zero => omega
      | succ k => exact roundsR ws I f0 round k m' (by omega) f' L3 h1 h3 a' w' ha' (hw'.perm hp).drops
    | ret => exact q
    | exit id => exact q
    | goto t => exact q
    | panic c => exact q
    | outgrown => exact q
theorem JR.loop {c : Code} (ws : Nat → Bool) (I : Nat → Fr → List Heap → Prop) (m0 : Nat) (h0 : I m0 f L)
    (round : ∀ k g L', I k g L' → JR rd m P n w0 R c (loopK ws f I k K) (havoc ws f g) L') : JR rd m P n w0 R (.loop c) K f L := fun a w ha hw =>
  wpIn_loop_rounds (m0 + 1) (roundsR ws I f round m0 m0 (Nat.le_refl _) f L Ag.rfl' h0 a w ha hw)
theorem calls_inR {fid : FuncId} {fn : Func} {c : Code} {args : List Value} {Post : Ending → World → Prop} {w : World}
    (hf : P.funcs[fid]? = some fn) (hn : fn.ntmps = n) (hb : fn.body = some c) (hsz : Nat.ble args.length n = true) (hH : H w0 R L w) (h : JR none m P n w0 R c (retK P fn n w0 R Post) (fr0 args) L) : CallsIn (FR none) m P fid args.toArray w Post := by
  refine callsIn_of_wp hf hb trivial ?_
  rw [hn]
  refine wpIn_mono (h _ w (fr0_rep (Nat.le_of_ble_eq_true hsz)) hH) ?_
  intro e a' w' q
  cases e with
  | normal =>
    obtain ⟨f', L', ha', hw', hk⟩ := q
    obtain ⟨v, h1, h2⟩ := hk a' w' ha' hw'
    exact ⟨ha'.2.1, v, h1, h2⟩
  | ret =>
    obtain ⟨f', L', ha', hw', hk⟩ := q
    obtain ⟨v, h1, h2⟩ := hk a' w' ha' hw'
    exact ⟨ha'.2.1, v, h1, h2⟩
  | exit i => obtain ⟨_, _, _, _, hk⟩ := q; exact hk.elim
  | goto i => obtain ⟨_, _, _, _, hk⟩ := q; exact hk.elim
  | panic i => obtain ⟨_, _, _, _, hk⟩ := q; exact hk.elim
  | outgrown => exact q.elim
end
end Go.Cx
namespace Go.Cx
open Go Go.RowKit
set_option linter.unusedVariables false
set_option linter.unusedSimpArgs false
section
variable {m : Nat} {P : Program} {n : Nat} {w0 : World} {R : Heap} {l0 l : List Oper} {K : Exit → Fr → List Heap → Prop} {f : Fr} {L : List Heap} {o : Oper}
def JL (m : Nat) (P : Program) (n : Nat) (w0 : World) (R : Heap) (l0 : List Oper) (K : Exit → Fr → List Heap → Prop) (l : List Oper) (f : Fr) (L : List Heap) : Prop :=
  ∀ a w, Rep n f a → H w0 R L w → wpListIn (FR none) m P l0.toArray (QW n w0 R K) l a w
theorem JR.regionL {id : Nat} (h : JL m P n w0 R l0 K l0 f L) : JR none m P n w0 R (.region id l0.toArray false) K f L := fun a w ha hw => wpIn_region_lit (h a w ha hw)
theorem JL.nil (h : K .normal f L) : JL m P n w0 R l0 K [] f L := fun a w ha hw => ⟨f, L, ha, hw, h⟩
def nextL (m : Nat) (P : Program) (n : Nat) (w0 : World) (R : Heap) (l0 : List Oper) (K : Exit → Fr → List Heap → Prop) (l : List Oper) : Exit → Fr → List Heap → Prop
  | .normal, f, L => JL m P n w0 R l0 K l f L
  | _, _, _ => False
theorem nextL.nn (h : JL m P n w0 R l0 K l f L) : nextL m P n w0 R l0 K l .normal f L := h
theorem JL.of (hd : ∀ c, o.op ≠ .defer c) (h : J P n w0 R l0 (nextL m P n w0 R l0 K l) [(2, o)] f L) : JL m P n w0 R l0 K (o :: l) f L := fun a w ha hw => by
  have h1 := h a ha w hw
  have hnext : ∀ a' w', (∃ C' : World → Prop, ((0 : Nat) ≠ 0 → ∀ w, C' w → H w0 R L w) ∧ C' w' ∧ LX P l0.toArray (QW n w0 R (nextL m P n w0 R l0 K l)) [] a' C') → wpListIn (FR none) m P l0.toArray (QW n w0 R K) l a' w' := fun a' w' ⟨C', _, hC, hl⟩ => by
    obtain ⟨f', L', ha', hw', hk⟩ := hl w' hC
    exact hk a' w' ha' hw'
  unfold lop at h1
  unfold wpListIn
  split
  · rename_i hg
    rw [if_pos hg] at h1
    have h2 := oper_dfr (ds := []) (Q' := QW n w0 R K) (next' := fun a' w' => wpListIn (FR none) m P l0.toArray (QW n w0 R K) l a' w') (fun a' w' q => by rw [dfr_nil]; exact hnext a' w' q) (fun c a w q => by obtain ⟨_, _, _, _, q⟩ := q; exact q.elim) (fun a w q => q) h1
    rw [dfr_nil] at h2
    exact oper_in hd h2
  · rename_i hg
    rw [if_neg hg] at h1
    exact ⟨fun _ _ => trivial, hnext _ _ h1⟩
theorem JL.yield {lp d : Nat} {x : Operand} {xs : List Operand} {ats : Array TypeId} {vs : List Value} {ty : TypeId} {pos : String} {aft : Array Edge} {g : Option (Nat × Bool)} {Φ : Value → List Heap → Prop} (hg : wantB n f l0 ⟨some d, .call ⟨.value x, ⟨xs⟩, ats⟩, ty, pos, aft, g⟩ = true) (hx : Cx.ev n f x = .func (.yield lp) ⟨[]⟩ ⟨[]⟩) (ha : argsEv (Cx.ev n f) xs = some vs)
    (hy : ∀ w, H w0 R L w → ∃ fn tmps assign body, (Instr.yield lp ⟨vs⟩).run P w = .ok (.round lp fn tmps assign body) w ∧ RoundIn (FR none) (m - 1) P lp fn tmps assign body w fun e w' => ∃ v L', e = .returned v ∧ H w0 R L' w' ∧ Φ v L')
    (k : ∀ v L', Φ v L' → JL m P n w0 R l0 K l (upd f d v) L') : JL m P n w0 R l0 K (⟨some d, .call ⟨.value x, ⟨xs⟩, ats⟩, ty, pos, aft, g⟩ :: l) f L := fun a w hra hw => by
  unfold wpListIn
  rw [if_pos ((hra.wanted l0 ⟨some d, .call ⟨.value x, ⟨xs⟩, ats⟩, ty, pos, aft, g⟩).trans hg)]
  refine ⟨fun _ _ => trivial, ?_⟩
  rw [Oper.semAt_eq _ _ _ (fun c => by intro h; cases h), hra.eval, yield_run hx ha]
  obtain ⟨fn, tmps, assign, body, hr, hround⟩ := hy w hw
  rw [hr]
  refine ⟨fun h => (by cases h), hround.mono ?_⟩
  rintro e w' ⟨v, L', rfl, hw', hP⟩
  exact k v L' hP _ _ (hra.put (some d) v) hw'
end
section
variable {m : Nat} {P : Program} {n : Nat} {w0 : World} {R : Heap} {l0 : List Oper} {K : Exit → Fr → List Heap → Prop} {f : Fr} {L : List Heap}
theorem JW.rangeB {id : Nat} {g : Operand} {ps : Array Tmp} {assign body y : Code} {gf : FuncId} {lb : List Value} {Q : Exit → Act → World → Prop} {Ψ : List Heap → Prop} (hg : Cx.ev n f g = .func (.func gf) ⟨[]⟩ ⟨lb⟩) (he : Entr P gf)
    (hit : ∀ (fn D : Nat) (tmps : Array Value) (w1 : World), Rep n f { tmps := tmps, defers := [] } → H w0 R ([(D + 1, .loop (recL fn tmps ps assign body D))] :: [(D, .deferred (some []))] :: L) w1 →
      CallsIn (FR none) (m - 1) P gf ⟨.func (.yield (D + 1)) ⟨[]⟩ ⟨[]⟩ :: lb⟩ w1 fun e w' => ∃ v L', e = .returned v ∧ H w0 R ([(D + 1, .loop (recL fn tmps ps assign body D))] :: [(D, .deferred (some []))] :: L') w' ∧ Ψ L')
    (hk : ∀ (D : Nat) L', Ψ L' → JW [{ target := .collected D, args := #[] }] m P n w0 R y Q f ([(D, .deferred (some []))] :: L')) : JW [] m P n w0 R (.block id (.rangeFunc g ps assign body)) (Exit.then (y.wpIn (FR none) m P Q) Q) f L := fun a w ha hw => by
  rw [dfr_nil]
  exact wpIn_block (rangeF_any hg he hit (fun D L' hP a w ha hw => hk D L' hP a w ha hw) ha hw)
theorem JW.seq {ds : List Deferred} {x z : Code} {Q : Exit → Act → World → Prop} (h : JW ds m P n w0 R x (Exit.then (z.wpIn (FR none) m P Q) Q) f L) : JW ds m P n w0 R (.seq x z) Q f L := fun a w ha hw => wpIn_seq (h a w ha hw)
theorem calls_of_JW {fid : FuncId} {fn : Func} {c : Code} {args : List Value} {Post : Ending → World → Prop} {w : World} (hf : P.funcs[fid]? = some fn) (hn : fn.ntmps = n) (hb : fn.body = some c) (hsz : Nat.ble args.length n = true) (hw : H w0 R L w)
    (h : JW [] m P n w0 R c (bodyPostM (FR none) m P fn Post) (fr0 args) L) : Calls P fid args.toArray w Post :=
  calls_of_D hf hn hb hsz hw fun a ha => by
    have := h a w ha hw
    rwa [dfr_nil] at this
theorem round_tmps (fn : FuncId) (tmps : Array Value) (p : Tmp) (assign body : Code) (D : Nat) (v : Value) : ((recL fn tmps #[p] assign body D).params.zip ⟨[v]⟩).foldl (fun tmps (t, a) => tmps.setIfInBounds t a) (recL fn tmps #[p] assign body D).tmps = tmps.setIfInBounds p v := by simp [recL]
theorem asgK.nn {l : Nat} {r : Loop} {Φ : Value → List Heap → Prop} (L2 : List Heap) (hto : ∀ w, H w0 R L w → H w0 R ([(l, .loop r)] :: L2) w) (h : JR (some l) m P n w0 R r.body (rndK w0 R l r Φ) f ([(l, .loop { r with state := .busy })] :: L2)) : asgK m P n w0 R l r Φ .normal f L := ⟨L2, hto, h⟩
theorem rndK.nn {l : Nat} {r : Loop} {Φ : Value → List Heap → Prop} (L2 : List Heap) (hto : ∀ w, H w0 R L w → H w0 R ([(l, .loop { r with state := .busy })] :: L2) w) (h : Φ (.bool true) ([(l, .loop { r with state := .ready, pending := none })] :: L2)) : rndK w0 R l r Φ .normal f L := ⟨L2, hto, h⟩
def JLd (ds : List Deferred) (m : Nat) (P : Program) (n : Nat) (w0 : World) (R : Heap) (l0 : List Oper) (Y : Code) (Q : Exit → Act → World → Prop) (l : List Oper) (f : Fr) (L : List Heap) : Prop :=
  ∀ a w, Rep n f a → H w0 R L w → wpListIn (FR none) m P l0.toArray (Exit.then (Y.wpIn (FR none) m P Q) Q) l (dfr ds a) w
theorem JW.regD {ds : List Deferred} {id : Nat} {Y : Code} {Q : Exit → Act → World → Prop} (h : JLd ds m P n w0 R l0 Y Q l0 f L) : JW ds m P n w0 R (.seq (.region id l0.toArray false) Y) Q f L := fun a w ha hw => wpIn_seq (wpIn_region_lit (h a w ha hw))
theorem JLd.nil {ds : List Deferred} {Y : Code} {Q : Exit → Act → World → Prop} (h : JW ds m P n w0 R Y Q f L) : JLd ds m P n w0 R l0 Y Q [] f L := fun a w ha hw => h a w ha hw
def nextLd (ds : List Deferred) (m : Nat) (P : Program) (n : Nat) (w0 : World) (R : Heap) (l0 : List Oper) (Y : Code) (Q : Exit → Act → World → Prop) (l : List Oper) : Exit → Fr → List Heap → Prop
  | .normal, f, L => JLd ds m P n w0 R l0 Y Q l f L
  | _, _, _ => False
theorem nextLd.nn {ds : List Deferred} {Y : Code} {Q : Exit → Act → World → Prop} {l : List Oper} (h : JLd ds m P n w0 R l0 Y Q l f L) : nextLd ds m P n w0 R l0 Y Q l .normal f L := h
theorem JLd.of {ds : List Deferred} {Y : Code} {Q : Exit → Act → World → Prop} {l : List Oper} {o : Oper} (hd : ∀ c, o.op ≠ .defer c) (h : J P n w0 R l0 (nextLd ds m P n w0 R l0 Y Q l) [(2, o)] f L) : JLd ds m P n w0 R l0 Y Q (o :: l) f L := fun a w ha hw => by
  have h1 := h a ha w hw
  have hnext : ∀ a' w', (∃ C' : World → Prop, ((0 : Nat) ≠ 0 → ∀ w, C' w → H w0 R L w) ∧ C' w' ∧ LX P l0.toArray (QW n w0 R (nextLd ds m P n w0 R l0 Y Q l)) [] a' C') → wpListIn (FR none) m P l0.toArray (Exit.then (Y.wpIn (FR none) m P Q) Q) l (dfr ds a') w' := fun a' w' ⟨C', _, hC, hl⟩ => by
    obtain ⟨f', L', ha', hw', hk⟩ := hl w' hC
    exact hk a' w' ha' hw'
  unfold lop at h1
  unfold wpListIn
  have hwa : Region.wanted o (yielded l0.toArray (dfr ds a).tmps) = Region.wanted o (yielded l0.toArray a.tmps) := rfl
  rw [hwa]
  split
  · rename_i hg
    rw [if_pos hg] at h1
    exact oper_in hd (oper_dfr (ds := ds) (next' := fun a' w' => wpListIn (FR none) m P l0.toArray (Exit.then (Y.wpIn (FR none) m P Q) Q) l a' w') hnext (fun c a w q => by obtain ⟨_, _, _, _, q⟩ := q; exact q.elim) (fun a w q => q) h1)
  · rename_i hg
    rw [if_neg hg] at h1
    refine ⟨fun _ _ => trivial, ?_⟩
    rw [dfr_put]
    exact hnext _ _ h1
end
end Go.Cx
namespace Go.Cx
open Go Go.RowKit
set_option linter.unusedVariables false
set_option linter.unusedSimpArgs false
section
variable {P : Program} {ops : Array Oper} {md : Region.Mode} {Q Q' : Exit → Act → World → Prop}
theorem wp_Q {o : Oper} {a : Act} {w : World} {K : Act → World → Prop} (hp : ∀ c a w, ¬ Q' (.panic c) a w) (hl : ∀ a w, ¬ Q' .outgrown a w) (hh : o.wp P a w K Q') : o.wp P a w K Q := by
  unfold Oper.wp at *
  generalize (execOp a.eval o).run P w = r at *
  cases r with
  | ok n w' =>
    cases n <;> simp only [Oper.upon] at hh ⊢ <;>
      first
        | exact hh
        | exact Calls.mono hh (fun e w'' he => by cases e <;> first | exact he | exact absurd he (hp _ _ _) | (obtain ⟨a, w, h⟩ := he; exact absurd h (hl _ _)))
  | halt x w' => cases x <;> simp only [Oper.upon] at hh ⊢ <;> first | exact hh | exact absurd hh (hp _ _ _)
theorem lop_Q {o : Oper} {a : Act} {w : World} {K : Act → World → Prop} (hp : ∀ c a w, ¬ Q' (.panic c) a w) (hl : ∀ a w, ¬ Q' .outgrown a w) (hh : lop P ops Q' o K a w) : lop P ops Q o K a w := by
  unfold lop at *
  split
  · rename_i hw; rw [if_pos hw] at hh; exact wp_Q hp hl hh
  · rename_i hw; rw [if_neg hw] at hh; exact hh
def LE (P : Program) (ops : Array Oper) (Q : Exit → Act → World → Prop) (D : World → Prop) : List (Nat × Oper) → Act → (World → Prop) → Prop
  | [], a, C => ∀ w, C w → Q .normal a w
  | (0, o) :: l, a, C => ∃ v, Yields P ops o v a ∧ ((∃ w, C w) → LE P ops Q D l (a.put o.dst v) C)
  | (1, o) :: l, a, C => ∃ v, YieldsIn P ops C o v a ∧ ((∃ w, C w) → LE P ops Q D l (a.put o.dst v) C)
  | (2, o) :: l, a, C => ∀ w, C w → lop P ops Q o (fun a' w' => ∃ C' : World → Prop, C' w' ∧ LE P ops Q D l a' C') a w
  | (3, o) :: l, a, C => ∀ w, C w → lop P ops Q o (fun a' w' => ∃ C' : World → Prop, (∀ w, C' w → D w) ∧ C' w' ∧ LE P ops Q D l a' C') a w
  | (_ + 4, o) :: l, a, C => isLd o.op = true ∧ (∀ w, C w → D w) ∧ ∃ v, YieldsIn P ops D o v a ∧ ((∃ w, C w) → LE P ops Q D l (a.put o.dst v) C)
def hasN (l : List Nat) (j : Nat) : Bool := l.any (Nat.beq j)
def lexE (md : Region.Mode) (ops : Array Oper) (lo gr : List Nat) : List (Nat × Nat) → Array Bool → Bool
  | [], listed => (Region.ready md ops listed).all (hasN lo)
  | (0, k) :: ks, listed => !hasN lo k && (Region.ready md ops listed).contains k && Region.free md ops listed k && lexE md ops lo gr ks (listed.setIfInBounds k true)
  | (1, k) :: ks, listed => !hasN lo k && (Region.ready md ops listed).contains k && Region.free md ops listed k && (lo.all fun j => listed.getD j true || waitsB md ops k ops.size j) && lexE md ops lo gr ks (listed.setIfInBounds k true)
  | (2, k) :: ks, listed => hasN lo k && !hasN gr k && decide (Region.ready md ops listed = [k]) && lexE md ops lo gr ks (listed.setIfInBounds k true)
  | (3, k) :: ks, listed => hasN lo k && decide (Region.ready md ops listed = [k]) && lexE md ops lo gr ks (listed.setIfInBounds k true)
  | (_ + 4, k) :: ks, listed => !hasN lo k && (Region.ready md ops listed).contains k && Region.free md ops listed k && (lo.all fun j => listed.getD j true || hasN gr j || waitsB md ops k ops.size j) && lexE md ops lo gr ks (listed.setIfInBounds k true)
def setAll : List (Nat × Nat) → Array Bool → Array Bool
  | [], l => l
  | (_, k) :: ks, l => setAll ks (l.setIfInBounds k true)
theorem hasN_mem {l : List Nat} {j : Nat} : hasN l j = true ↔ j ∈ l := by
  unfold hasN
  rw [List.any_eq_true]
  constructor
  · rintro ⟨x, hx, h⟩; rw [Nat.eq_of_beq_eq_true h]; exact hx
  · intro h; exact ⟨j, h, by simp⟩
theorem GD.single {D C : World → Prop} {lo gr : Nat → Bool} {m : Nat} {listed : Array Bool} {a : Act} (hne : ∃ w, C w) (hall : ∀ j ∈ Region.ready md ops listed, lo j = true) (h : ∀ w, C w → GD P md ops Q D lo gr (fun x => x = w) m listed a) : GD P md ops Q D lo gr C m listed a := by
  cases m with
  | zero =>
    obtain ⟨w, hw⟩ := hne
    exact ⟨(h w hw).1, fun w hw => (h w hw).2 w rfl⟩
  | succ m =>
    refine ⟨fun h0 w hw => (h w hw).1 h0 w rfl, fun j hj => .inl ⟨hall j hj, fun w hw => ?_⟩⟩
    rcases (h w hw).2 j hj with ⟨_, h1⟩ | ⟨h1, _⟩
    · exact h1 w rfl
    · rw [hall j hj] at h1; cases h1
theorem LE.gd {D : World → Prop} {lo gr : List Nat} (hs : Region.noSelect ops = true) (hQ : ∀ c a w, ¬ Q (.panic c) a w) (hQ' : ∀ c a w, ¬ Q' (.panic c) a w) (hO : ∀ a w, ¬ Q' .outgrown a w) (m : Nat) : ∀ (ps : List (Nat × Nat)) (l : List (Nat × Oper)) (listed : Array Bool) (a : Act) (C : World → Prop), Along ops ps l →
    Closed md ops listed → lexE md ops lo gr ps listed = true → (∃ w, C w) → (∀ a w, Q' .normal a w → Closed md ops (setAll ps listed) → GD P md ops Q D (hasN lo) (hasN gr) (fun x => x = w) m (setAll ps listed) a) → LE P ops Q' D l a C → GD P md ops Q D (hasN lo) (hasN gr) C (l.length + m) listed a
  | [], [], listed, a, C, _, inv, hB, hne, hend, h => by
    simp only [lexE, List.all_eq_true] at hB
    have := GD.single (P := P) (Q := Q) (D := D) (gr := hasN gr) hne hB (fun w hw => hend a w (h w hw) inv)
    simpa using this
  | [], _ :: _, _, _, _, hlen, _, _, _, _, _ => hlen.elim
  | _ :: _, [], _, _, _, hlen, _, _, _, _, _ => hlen.elim
  | (c, k) :: ks, (c', o) :: l, listed, a, C, ⟨h0, hcc, hl⟩, inv, hB, hne, hend, h => by
    subst hcc
    have hlen : ((c, o) :: l).length + m = (l.length + m) + 1 := by simp only [List.length_cons]; omega
    rw [hlen]
    match c, hB, h with
    | 0, hB, h =>
      simp only [lexE, Bool.and_eq_true, Bool.not_eq_true'] at hB
      obtain ⟨⟨⟨hlk, hr⟩, hf⟩, hB'⟩ := hB
      have hr' : k ∈ Region.ready md ops listed := by simpa using hr
      obtain ⟨v, hy, hk⟩ := h
      have hyi : YieldsIn P ops C o v a := by
        rcases hy with ⟨h1, h2⟩ | h1
        · exact .inl ⟨h1, fun w _ => by unfold Oper.quietAt; rw [h2 w]; exact ⟨rfl, rfl⟩⟩
        · exact .inr h1
      exact GD.first h0 (Region.noSelect_spec hs) hQ hlk (l.length + m) C listed a inv (Region.free_spec h0 hf) hr' hyi (.inl hy) (LE.gd hs hQ hQ' hO m ks l _ _ C hl (inv.set hr') hB' hne hend (hk hne))
    | 1, hB, h =>
      simp only [lexE, Bool.and_eq_true, Bool.not_eq_true'] at hB
      obtain ⟨⟨⟨⟨hlk, hr⟩, hf⟩, hw⟩, hB'⟩ := hB
      have hr' : k ∈ Region.ready md ops listed := by simpa using hr
      obtain ⟨v, hy, hk⟩ := h
      refine GD.first h0 (Region.noSelect_spec hs) hQ hlk (l.length + m) C listed a inv (Region.free_spec h0 hf) hr' hy (.inr (.inl fun j hj hun => ⟨ops.size, ?_⟩)) (LE.gd hs hQ hQ' hO m ks l _ _ C hl (inv.set hr') hB' hne hend (hk hne))
      have := List.all_eq_true.1 hw j (hasN_mem.1 hj)
      simp only [Bool.or_eq_true] at this
      rcases this with h' | h'
      · rw [hun] at h'; cases h'
      · exact h'
    | 2, hB, h =>
      simp only [lexE, Bool.and_eq_true, Bool.not_eq_true', decide_eq_true_eq] at hB
      obtain ⟨⟨⟨hlk, hgk⟩, hr⟩, hB'⟩ := hB
      have hr' : k ∈ Region.ready md ops listed := by rw [hr]; simp
      exact loud_step hlk hr h0 (fun w hC => lop_Q hQ' hO (lop_mono (fun a' w' ⟨C', hC', hk⟩ => ⟨C', fun hg => (by rw [hgk] at hg; cases hg), hC', LE.gd hs hQ hQ' hO m ks l _ _ C' hl (inv.set hr') hB' ⟨w', hC'⟩ hend hk⟩) (h w hC)))
    | 3, hB, h =>
      simp only [lexE, Bool.and_eq_true, Bool.not_eq_true', decide_eq_true_eq] at hB
      obtain ⟨⟨hlk, hr⟩, hB'⟩ := hB
      have hr' : k ∈ Region.ready md ops listed := by rw [hr]; simp
      exact loud_step hlk hr h0 (fun w hC => lop_Q hQ' hO (lop_mono (fun a' w' ⟨C', hD, hC', hk⟩ => ⟨C', fun _ => hD, hC', LE.gd hs hQ hQ' hO m ks l _ _ C' hl (inv.set hr') hB' ⟨w', hC'⟩ hend hk⟩) (h w hC)))
    | c + 4, hB, h =>
      simp only [lexE, Bool.and_eq_true, Bool.not_eq_true'] at hB
      obtain ⟨⟨⟨⟨hlk, hr⟩, hf⟩, hw⟩, hB'⟩ := hB
      have hr' : k ∈ Region.ready md ops listed := by simpa using hr
      obtain ⟨hld, hsub, v, hy, hk⟩ := h
      have hyi : YieldsIn P ops C o v a := by
        rcases hy with ⟨h1, h2⟩ | h1
        · exact .inl ⟨h1, fun w hw => by
            have h3 := yieldsIn_ld (C := D) hld (.inl ⟨h1, h2⟩)
            rcases h3 with ⟨_, h4⟩ | h4
            · unfold Oper.quietAt; rw [h4 w (hsub w hw)]; exact ⟨rfl, rfl⟩
            · rw [h1] at h4; simp at h4⟩
        · exact .inr h1
      refine GD.first h0 (Region.noSelect_spec hs) hQ hlk (l.length + m) C listed a inv (Region.free_spec h0 hf) hr' hyi (.inr (.inr ⟨yieldsIn_ld hld hy, fun j hj hun => ?_⟩)) (LE.gd hs hQ hQ' hO m ks l _ _ C hl (inv.set hr') hB' hne hend (hk hne))
      have := List.all_eq_true.1 hw j (hasN_mem.1 hj)
      simp only [Bool.or_eq_true] at this
      rcases this with (h' | h') | h'
      · rw [hun] at h'; cases h'
      · exact .inl h'
      · exact .inr ⟨ops.size, h'⟩
end
section
variable {P : Program} {n : Nat} {w0 : World} {R : Heap} {K : Exit → Fr → List Heap → Prop} {f : Fr} {L L0 : List Heap} {l0 : List Oper} {rest : List (Nat × Oper)} {o : Oper}
def Br (P : Program) (n : Nat) (w0 : World) (R : Heap) (L0 : List Heap) (lo gr : List Nat) (l0 : List Oper) (K : Exit → Fr → List Heap → Prop) (m : Nat) (listed : Array Bool) (f : Fr) (L : List Heap) : Prop :=
  ∀ a w, Rep n f a → H w0 R L w → Closed .any l0.toArray listed → GD P .any l0.toArray (QW n w0 R (drawK K)) (H w0 R L0) (hasN lo) (hasN gr) (fun x => x = w) m listed a
def brK (P : Program) (n : Nat) (w0 : World) (R : Heap) (L0 : List Heap) (lo gr : List Nat) (l0 : List Oper) (K : Exit → Fr → List Heap → Prop) (m : Nat) (listed : Array Bool) : Exit → Fr → List Heap → Prop
  | .normal, f, L => Br P n w0 R L0 lo gr l0 K m listed f L
  | _, _, _ => False
def JE (P : Program) (n : Nat) (w0 : World) (R : Heap) (L0 : List Heap) (l0 : List Oper) (K : Exit → Fr → List Heap → Prop) (l : List (Nat × Oper)) (f : Fr) (L : List Heap) : Prop :=
  ∀ a, Rep n f a → LE P l0.toArray (QW n w0 R K) (H w0 R L0) l a (H w0 R L)
theorem JC.drawE {id : Nat} {l : List Oper} (L0 : List Heap) (lo gr : List Nat) (ps : List (Nat × Nat)) (m : Nat) (listed : Array Bool) (hm : P.follows .mixedOrders = true)
    (hB : (Region.noSelect l.toArray && Nat.beq (ps.length + m) l.length && ps.all (fun p => Nat.blt p.2 l.length) && lexE .any l.toArray lo gr ps (Array.replicate l.length false)) = true) (hl : setAll ps (Array.replicate l.length false) = listed)
    (h : JE P n w0 R L0 l (brK P n w0 R L0 lo gr l K m listed) (picks l ps) f L) : JC P n w0 R (.region id l.toArray true) K f L := fun a w ha hw => by
  simp only [Bool.and_eq_true] at hB
  obtain ⟨⟨⟨hs, hlen⟩, hall⟩, hlex⟩ := hB
  have hlen' := Nat.eq_of_beq_eq_true hlen
  obtain ⟨hal, hpl⟩ := picks_along l ps hall
  refine wp_mono (Q := QW n w0 R (drawK K)) (wp_region_any hm ?_) (fun e a w q => q.mono fun e f L hk => by cases e <;> first | exact hk | exact hk.elim)
  have inv0 : Closed .any l.toArray (Array.replicate l.length false) := ⟨by simp, fun j oj _ hl => (by rw [show (Array.replicate l.length false).getD j false = false from by rcases Nat.lt_or_ge j l.length with h | h <;> simp_all] at hl; cases hl)⟩
  have hdr := hw.drew (w.drawn + 1)
  have := (LE.gd (md := .any) (Q := QW n w0 R (drawK K)) hs (fun c a w q => by obtain ⟨_, _, _, _, hk⟩ := q; exact hk) (fun c a w q => by obtain ⟨_, _, _, _, hk⟩ := q; exact hk) (fun a w q => q) m ps (picks l ps) _ a _ hal inv0 hlex ⟨_, hdr⟩
    (fun a w q hc => by rw [hl] at hc ⊢; obtain ⟨f', L', ha', hw', hk⟩ := q; exact hk a w ha' hw' hc) (h a ha)).any _ hdr
  rw [hpl, hlen'] at this
  simpa using this
theorem Br.done {lo gr : List Nat} {m : Nat} {listed : Array Bool} (hr : (Region.ready .any l0.toArray listed).isEmpty = true) (h : K .normal f L) : Br P n w0 R L0 lo gr l0 K m listed f L := fun a w ha hw _ => by
  have hr' : Region.ready .any l0.toArray listed = [] := by simpa using hr
  have hq : ∀ w', w' = w → QW n w0 R (drawK K) .normal a w' := fun w' e => by subst e; exact ⟨f, L, ha, hw, h⟩
  cases m with
  | zero => exact ⟨hr', hq⟩
  | succ m => exact ⟨fun _ => hq, fun j hj => by rw [hr'] at hj; cases hj⟩
theorem Br.step {lo gr : List Nat} {m m' k c : Nat} {listed listed' : Array Bool} {o : Oper} (ps : List (Nat × Nat)) (h0 : l0[k]? = some o) (hk : k ∈ Region.ready .any l0.toArray listed) (hc : Closed .any l0.toArray listed)
    (hB : (Region.noSelect l0.toArray && hasN lo k && (hasN gr k == Nat.beq c 1) && Nat.ble c 1 && Nat.beq (ps.length + 1 + m') m && ps.all (fun p => Nat.blt p.2 l0.length) && lexE .any l0.toArray lo gr ps (listed.setIfInBounds k true)) = true) (hl : setAll ps (listed.setIfInBounds k true) = listed')
    (h : JE P n w0 R L0 l0 (brK P n w0 R L0 lo gr l0 K m' listed') ((c + 2, o) :: picks l0 ps) f L) {a : Act} {w : World} (ha : Rep n f a) (hw : H w0 R L w) :
    hasN lo k = true ∧ ∀ w', w' = w → wpOp P l0.toArray (QW n w0 R (drawK K)) k (fun a' w' => ∃ C' : World → Prop, (hasN gr k = true → ∀ w, C' w → H w0 R L0 w) ∧ C' w' ∧ GD P .any l0.toArray (QW n w0 R (drawK K)) (H w0 R L0) (hasN lo) (hasN gr) C' (m - 1) (listed.setIfInBounds k true) a') a w' := by
  simp only [Bool.and_eq_true] at hB
  obtain ⟨⟨⟨⟨⟨⟨hs, hlk⟩, hg⟩, hc1⟩, hlen⟩, hall⟩, hlex⟩ := hB
  have hlen' := Nat.eq_of_beq_eq_true hlen
  obtain ⟨hal, hpl⟩ := picks_along l0 ps hall
  refine ⟨hlk, fun w' e => ?_⟩
  subst e
  have hE := h a ha
  have h0' : l0.toArray[k]? = some o := by simpa using h0
  have fin : ∀ (a' : Act) (w' : World) (C' : World → Prop), C' w' → LE P l0.toArray (QW n w0 R (brK P n w0 R L0 lo gr l0 K m' listed')) (H w0 R L0) (picks l0 ps) a' C' → GD P .any l0.toArray (QW n w0 R (drawK K)) (H w0 R L0) (hasN lo) (hasN gr) C' (m - 1) (listed.setIfInBounds k true) a' := fun a' w' C' hC' hL => by
    have := LE.gd (md := .any) (Q := QW n w0 R (drawK K)) hs (fun c a w q => by obtain ⟨_, _, _, _, hk⟩ := q; exact hk) (fun c a w q => by obtain ⟨_, _, _, _, hk⟩ := q; exact hk) (fun a w q => q) m' ps (picks l0 ps) _ a' C' hal (hc.set hk) hlex ⟨_, hC'⟩
      (fun a w q hc => by rw [hl] at hc ⊢; obtain ⟨f', L', ha', hw', hk⟩ := q; exact hk a w ha' hw' hc) hL
    rw [hpl] at this
    have e1 : m - 1 = ps.length + m' := by omega
    rw [e1]; exact this
  have key : lop P l0.toArray (QW n w0 R (drawK K)) o (fun a' w' => ∃ C' : World → Prop, (hasN gr k = true → ∀ w, C' w → H w0 R L0 w) ∧ C' w' ∧ GD P .any l0.toArray (QW n w0 R (drawK K)) (H w0 R L0) (hasN lo) (hasN gr) C' (m - 1) (listed.setIfInBounds k true) a') a w' := by
    match c, hE, hg, hc1 with
    | 0, hE, hg, _ =>
      refine lop_Q (fun c a w q => by obtain ⟨_, _, _, _, hk⟩ := q; exact hk) (fun a w q => q) (lop_mono (fun a' w' ⟨C', hC', hk⟩ => ⟨C', fun hgr => ?_, hC', fin a' w' C' hC' hk⟩) (hE w' hw))
      rw [hgr] at hg; simp at hg
    | 1, hE, _, _ => exact lop_Q (fun c a w q => by obtain ⟨_, _, _, _, hk⟩ := q; exact hk) (fun a w q => q) (lop_mono (fun a' w' ⟨C', hD, hC', hk⟩ => ⟨C', fun _ => hD, hC', fin a' w' C' hC' hk⟩) (hE w' hw))
    | c + 2, _, _, hc1 => simp at hc1
  unfold wpOp
  simp only [h0']
  unfold lop at key
  split
  · rename_i hg; rw [if_pos hg] at key; exact .inl key
  · rename_i hg; rw [if_neg hg] at key; exact key
theorem Br.two {lo gr : List Nat} {m m1 m2 c1 c2 : Nat} {listed listed1 listed2 : Array Bool} {o1 o2 : Oper} (k1 k2 : Nat) (ps1 ps2 : List (Nat × Nat)) (hr : decide (Region.ready .any l0.toArray listed = [k1, k2]) = true) (e1 : l0[k1]? = some o1) (e2 : l0[k2]? = some o2)
    (hB1 : (Region.noSelect l0.toArray && hasN lo k1 && (hasN gr k1 == Nat.beq c1 1) && Nat.ble c1 1 && Nat.beq (ps1.length + 1 + m1) m && ps1.all (fun p => Nat.blt p.2 l0.length) && lexE .any l0.toArray lo gr ps1 (listed.setIfInBounds k1 true)) = true) (hl1 : setAll ps1 (listed.setIfInBounds k1 true) = listed1)
    (hB2 : (Region.noSelect l0.toArray && hasN lo k2 && (hasN gr k2 == Nat.beq c2 1) && Nat.ble c2 1 && Nat.beq (ps2.length + 1 + m2) m && ps2.all (fun p => Nat.blt p.2 l0.length) && lexE .any l0.toArray lo gr ps2 (listed.setIfInBounds k2 true)) = true) (hl2 : setAll ps2 (listed.setIfInBounds k2 true) = listed2)
    (h1 : JE P n w0 R L0 l0 (brK P n w0 R L0 lo gr l0 K m1 listed1) ((c1 + 2, o1) :: picks l0 ps1) f L) (h2 : JE P n w0 R L0 l0 (brK P n w0 R L0 lo gr l0 K m2 listed2) ((c2 + 2, o2) :: picks l0 ps2) f L) : Br P n w0 R L0 lo gr l0 K m listed f L := fun a w ha hw hc => by
  have hr' := of_decide_eq_true hr
  have hm : m = (m - 1) + 1 := by
    simp only [Bool.and_eq_true] at hB1
    have := Nat.eq_of_beq_eq_true hB1.1.1.2
    omega
  rw [hm]
  refine ⟨fun h => (by rw [hr'] at h; cases h), fun j hj => .inl ?_⟩
  have hj' := hj
  rw [hr'] at hj'
  rcases List.mem_cons.1 hj' with rfl | hj'
  · exact Br.step ps1 e1 hj hc hB1 hl1 h1 ha hw
  · rw [List.mem_singleton] at hj'
    subst hj'
    exact Br.step ps2 e2 hj hc hB2 hl2 h2 ha hw
def eK0 (J0 : Fr → Prop) (L : List Heap) : Exit → Fr → List Heap → Prop
  | .normal, f, L' => L' = L ∧ J0 f
  | _, _, _ => False
def eK3 (w0 : World) (R : Heap) (L0 : List Heap) (J0 : Fr → List Heap → Prop) : Exit → Fr → List Heap → Prop
  | .normal, f, L' => (∀ w, H w0 R L' w → H w0 R L0 w) ∧ J0 f L'
  | _, _, _ => False
theorem JE.s0 (h : J P n w0 R l0 (eK0 (fun f' => JE P n w0 R L0 l0 K rest f' L) L) [(0, o)] f L) : JE P n w0 R L0 l0 K ((0, o) :: rest) f L := fun a ha => by
  obtain ⟨v, hy, hk⟩ := h a ha
  refine ⟨v, hy, fun ⟨w, hw⟩ => ?_⟩
  obtain ⟨f', L', ha', _, rfl, hj⟩ := hk w hw
  exact hj _ ha'
theorem JE.s4 (hld : isLd o.op = true) (hsub : ∀ w, H w0 R L w → H w0 R L0 w) (h : J P n w0 R l0 (eK0 (fun f' => JE P n w0 R L0 l0 K rest f' L) L0) [(1, o)] f L0) : JE P n w0 R L0 l0 K ((4, o) :: rest) f L := fun a ha => by
  obtain ⟨v, hy, hk⟩ := h a ha
  refine ⟨hld, hsub, v, hy, fun ⟨w, hw⟩ => ?_⟩
  obtain ⟨f', L', ha', _, _, hj⟩ := hk w (hsub w hw)
  exact hj _ ha'
theorem lop_no {o : Oper} {a : Act} {w : World} {Kk : Act → World → Prop} {Ka Kb : Exit → Fr → List Heap → Prop} (hk : ∀ c f L, ¬ Ka (.panic c) f L) (hh : lop P l0.toArray (QW n w0 R Ka) o Kk a w) : lop P l0.toArray (QW n w0 R Kb) o Kk a w :=
  lop_Q (fun c a w q => by obtain ⟨_, _, _, _, h⟩ := q; exact hk _ _ _ h) (fun a w q => q) hh
theorem JE.s3 (h : J P n w0 R l0 (eK3 w0 R L0 (fun f' L' => JE P n w0 R L0 l0 K rest f' L')) [(2, o)] f L) : JE P n w0 R L0 l0 K ((3, o) :: rest) f L := fun a ha w hw => by
  refine lop_no (fun c f L h => h) (lop_mono ?_ (h a ha w hw))
  rintro a' w' ⟨C', _, hC', hk⟩
  obtain ⟨f', L', ha', hw', hs, hj⟩ := hk w' hC'
  exact ⟨_, hs, hw', hj _ ha'⟩
theorem JE.is {l : List (Nat × Oper)} (h : JE P n w0 R L0 l0 K l f L) : JE P n w0 R L0 l0 K l f L := h
theorem JE.nil (h : K .normal f L) : JE P n w0 R L0 l0 K [] f L := fun _ ha _ hw => ⟨f, L, ha, hw, h⟩
theorem eK0.nn {J0 : Fr → Prop} (h : J0 f) : eK0 J0 L .normal f L := ⟨rfl, h⟩
theorem eK3.nn {J0 : Fr → List Heap → Prop} (hs : ∀ w, H w0 R L w → H w0 R L0 w) (h : J0 f L) : eK3 w0 R L0 J0 .normal f L := ⟨hs, h⟩
theorem eK3.is {J0 : Fr → List Heap → Prop} {e : Exit} (h : eK3 w0 R L0 J0 e f L) : eK3 w0 R L0 J0 e f L := h
theorem brK.nn {lo gr : List Nat} {m : Nat} {listed : Array Bool} (h : Br P n w0 R L0 lo gr l0 K m listed f L) : brK P n w0 R L0 lo gr l0 K m listed .normal f L := h
end
end Go.Cx
namespace Go.Cx
open Go Go.RowKit
set_option linter.unusedVariables false
set_option linter.unusedSimpArgs false
section
variable {P : Program} {n : Nat} {w0 : World} {R : Heap} {l0 : List Oper} {K : Exit → Fr → List Heap → Prop} {f : Fr} {L : List Heap} {rest : List (Nat × Oper)} {κ : Nat}
variable {Γ : List (Nat × TI)} {d : Nat} {op : Op} {ty : TypeId} {pos : String} {aft : Array Edge} {g : Option (Nat × Bool)}
variable {α : Type} {enc : α → List Value} {size : Nat} {e : TypeId} {a : Option Addr} {cap : Nat} {ts : List α} {h : Heap}
theorem J.ap1 {t : TypeId} {x y : Operand} {len m c gx : Nat} {cl : List Value} {fr : Nat × Nat} {e' s1 b1 b2 : Nat} {z1 : Option Value} {z : Value} {zc : List Value} {de : TypeDesc} (us : List α) (hΓ : Fits P Γ)
    (k : ∀ a' cap' h', OwT enc size e a' cap' (ts ++ us) h' → J P n w0 R l0 K rest (upd f d (.slice a' (ts ++ us).length cap')) (h' :: L))
    (hg : wantB n f l0 ⟨some d, .call ⟨.builtin .append, ⟨[x, y]⟩, ⟨[t, t]⟩⟩, ty, pos, aft, g⟩ = true := by exact rfl)
    (hx : Cx.ev n f x = .slice a len cap := by exact rfl) (hy : Cx.ev n f y = .slice (some ⟨gx, 0, none⟩) m c := by exact rfl) (ht : look Γ t = some ⟨.slice e, s1, z1, b1⟩ := by exact rfl) (he : look Γ e = some ⟨de, size, some z, b2⟩ := by exact rfl) (hz : vcells z = some zc := by exact rfl) (hzl : Nat.beq zc.length size = true := by exact rfl)
    (ho : OwT enc size e a cap ts h := by assumption) (hlen : ts.length = len := by first | rfl | assumption | omega) (hus : us.flatMap enc = cl := by exact rfl) (hm : us.length = m := by exact rfl) (h1 : ones cl = true := by exact rfl) (hpos : 0 < m := by omega) (hb : (len + m) * b2 ≤ 140737488355328 := by first | omega | (simp only [List.length_append, List.length_cons, List.length_nil]; omega)) (h63 : len + m ≤ 9223372036854775807 := by first | omega | (simp only [List.length_append, List.length_cons, List.length_nil]; omega)) :
    J P n w0 R l0 K ((2, ⟨some d, .call ⟨.builtin .append, ⟨[x, y]⟩, ⟨[t, t]⟩⟩, ty, pos, aft, g⟩) :: rest) f ([(gx, .cells ⟨cl⟩ e' fr)] :: h :: L) := by
  have hll : (ts ++ us).length = len + m := by rw [List.length_append, hlen, hm]
  rw [hll] at k
  exact J.app1 us hΓ hg hx hy ht he hz hzl ho hlen hus hm h1 hpos hb h63 k
end
section
variable {β : Type} {a b c d e f g h : β} {L : List β}
theorem br1 : (a :: b :: L).Perm (b :: a :: L) := .swap _ _ _
theorem br2 : (a :: b :: c :: L).Perm (c :: a :: b :: L) := (br1.cons _).trans br1
theorem br3 : (a :: b :: c :: d :: L).Perm (d :: a :: b :: c :: L) := (br2.cons _).trans br1
theorem br4 : (a :: b :: c :: d :: e :: L).Perm (e :: a :: b :: c :: d :: L) := (br3.cons _).trans br1
theorem br5 : (a :: b :: c :: d :: e :: f :: L).Perm (f :: a :: b :: c :: d :: e :: L) := (br4.cons _).trans br1
end
def pins : List (Nat × Value) → Fr → Fr
  | [], f => f
  | (i, v) :: l, f => upd (pins l f) i v
def agrees : List (Nat × Value) → Fr → Prop
  | [], _ => True
  | (i, v) :: l, f => f i = v ∧ agrees l f
theorem pins_of : ∀ (l : List (Nat × Value)) (f : Fr), agrees l f → pins l f = f
  | [], _, _ => rfl
  | (i, v) :: l, f, h => by
    show upd (pins l f) i v = f
    rw [pins_of l f h.2]
    funext j
    by_cases hj : j = i
    · subst hj; rw [upd_same, h.1]
    · exact upd_ne f v hj
theorem JC.gen {P : Program} {n : Nat} {w0 : World} {R : Heap} {K : Exit → Fr → List Heap → Prop} {c : Code} {f : Fr} {L : List Heap} (l : List (Nat × Value)) (ha : agrees l f) (k : ∀ F, JC P n w0 R c K (pins l F) L) : JC P n w0 R c K f L := by
  rw [← pins_of l f ha]
  exact k f
theorem H.mg1 {w0 w : World} {R a b : Heap} {L : List Heap} (h : H w0 R (a :: b :: L) w) : H w0 R ((a ++ b) :: L) w := by
  have e : (a :: b :: L).flatten = ((a ++ b) :: L).flatten := by simp
  exact ⟨h.below, h.old, e ▸ h.own, e ▸ h.new, e ▸ h.nodup⟩
theorem SlT.sub {α : Type} {enc : α → List Value} {size : Nat} {a : Option Addr} {ts : List α} {h h' : Heap} (hs : SlT enc size a ts h) (hh : ∀ x, x ∈ h → x ∈ h') : SlT enc size a ts h' :=
  ⟨hs.len, fun i hi => by obtain ⟨b, off, cs, e, fr, h1, h2, h3, h4⟩ := hs.at_ i hi; exact ⟨b, off, cs, e, fr, h1, hh _ h2, h3, h4⟩⟩
end Go.Cx
namespace Go.Proofs.YtdiciemlbhkilaaGreatDoor
open Go Go.Cx Go.RowKit
set_option linter.unusedVariables false
set_option linter.unusedSimpArgs false
set_option maxHeartbeats 4000000
attribute [local irreducible] J JC thenK blockK loopK roundK drawK retK QW Qt pel List.set Calls
set_option maxRecDepth 8000
theorem wU64 {r : Nat} (h : r < 18446744073709551616) : IntKind.u64.wrap (r : Int) = (r : Int) := IntWalk.u64_in _ (by omega)
theorem wU32 {r : Nat} (h : r < 4294967296) : IntKind.u32.wrap (r : Int) = (r : Int) := IntWalk.u32_in _ (by omega)
theorem wI64 {r : Nat} (h : r < 9223372036854775808) : IntKind.i64.wrap (r : Int) = (r : Int) := IntWalk.i64_in _ (by omega)
theorem wT32 (r : Nat) : IntKind.u32.wrap (r : Int) = ((r % 4294967296 : Nat) : Int) := by rw [IntKind.wrap_u32]; rfl
theorem bv_g (k m : Nat) (hm : m < 2 ^ k) : (BitVec.ofInt k (m : Int)).toNat = m := by
  have : BitVec.ofInt k (m : Int) = BitVec.ofNat k m := by simp
  rw [this, BitVec.toNat_ofNat, Nat.mod_eq_of_lt hm]
section
variable {P : Program} {n : Nat} {w0 : World} {R : Heap} {l0 : List Oper} {K : Exit → Fr → List Heap → Prop} {f : Fr} {L : List Heap} {rest : List (Nat × Oper)} {κ : Nat} {Γ : List (Nat × TI)}
variable {d : Nat} {ty : TypeId} {pos : String} {aft : Array Edge} {g : Option (Nat × Bool)} {t u : TypeId} {x y : Operand} {k : IntKind} {a b : Nat}
theorem J.gadd (kk : J P n w0 R l0 K rest (upd f d (.int k ((a + b : Nat) : Int))) L) (hg : wantB n f l0 ⟨some d, .binOp .add t x y u, ty, pos, aft, g⟩ = true := by exact rfl) (hx : Cx.ev n f x = .int k (a : Int) := by exact rfl) (hy : Cx.ev n f y = .int k (b : Int) := by exact rfl) (hw : k.wrap ((a + b : Nat) : Int) = ((a + b : Nat) : Int) := by first | exact wU64 (by omega) | exact wU32 (by omega)) : J P n w0 R l0 K ((κ, ⟨some d, .binOp .add t x y u, ty, pos, aft, g⟩) :: rest) f L :=
  J.p hg (bin_run hx hy (fun w => by
    have h1 : k.wrap ((a : Int) + (b : Int)) = ((a + b : Nat) : Int) := hw
    simp [binOp, Op.intArith, h1, go_sem])) kk
theorem J.gsub (kk : J P n w0 R l0 K rest (upd f d (.int k ((a - b : Nat) : Int))) L) (hg : wantB n f l0 ⟨some d, .binOp .sub t x y u, ty, pos, aft, g⟩ = true := by exact rfl) (hx : Cx.ev n f x = .int k (a : Int) := by exact rfl) (hy : Cx.ev n f y = .int k (b : Int) := by exact rfl) (hb : b ≤ a := by omega) (hw : k.wrap ((a - b : Nat) : Int) = ((a - b : Nat) : Int) := by first | exact wI64 (by omega) | exact wU64 (by omega) | exact wU32 (by omega)) : J P n w0 R l0 K ((κ, ⟨some d, .binOp .sub t x y u, ty, pos, aft, g⟩) :: rest) f L :=
  J.p hg (bin_run hx hy (fun w => by
    have h0 : (a : Int) - (b : Int) = ((a - b : Nat) : Int) := by omega
    have h1 : k.wrap ((a : Int) - (b : Int)) = ((a - b : Nat) : Int) := by rw [h0]; exact hw
    simp [binOp, Op.intArith, h1, go_sem])) kk
theorem J.gmul (kk : J P n w0 R l0 K rest (upd f d (.int k ((a * b : Nat) : Int))) L) (hg : wantB n f l0 ⟨some d, .binOp .mul t x y u, ty, pos, aft, g⟩ = true := by exact rfl) (hx : Cx.ev n f x = .int k (a : Int) := by exact rfl) (hy : Cx.ev n f y = .int k (b : Int) := by exact rfl) (hw : k.wrap ((a * b : Nat) : Int) = ((a * b : Nat) : Int) := by first | exact wU64 (by omega) | exact wU32 (by omega)) : J P n w0 R l0 K ((κ, ⟨some d, .binOp .mul t x y u, ty, pos, aft, g⟩) :: rest) f L :=
  J.p hg (bin_run hx hy (fun w => by
    have h1 : k.wrap ((a : Int) * (b : Int)) = ((a * b : Nat) : Int) := hw
    simp [binOp, Op.intArith, h1, go_sem])) kk
theorem J.gquo (kk : J P n w0 R l0 K rest (upd f d (.int k ((a / b : Nat) : Int))) L) (hg : wantB n f l0 ⟨some d, .binOp .quo t x y u, ty, pos, aft, g⟩ = true := by exact rfl) (hx : Cx.ev n f x = .int k (a : Int) := by exact rfl) (hy : Cx.ev n f y = .int k (b : Int) := by exact rfl) (hb : 0 < b := by omega) (hw : k.wrap ((a / b : Nat) : Int) = ((a / b : Nat) : Int) := by first | exact wU64 (by omega) | exact wU32 (by omega)) : J P n w0 R l0 K ((κ, ⟨some d, .binOp .quo t x y u, ty, pos, aft, g⟩) :: rest) f L :=
  J.p hg (bin_run hx hy (fun w => by
    have h1 : k.wrap ((a : Int).tdiv (b : Int)) = ((a / b : Nat) : Int) := hw
    have h2 : ¬ ((b : Int) = 0) := by omega
    have h3 : ¬ (b = 0) := by omega
    simp [binOp, Op.intDiv, h2, h3, h1, go_sem]
    exact hw)) kk
theorem J.grem (kk : J P n w0 R l0 K rest (upd f d (.int k ((a % b : Nat) : Int))) L) (hg : wantB n f l0 ⟨some d, .binOp .rem t x y u, ty, pos, aft, g⟩ = true := by exact rfl) (hx : Cx.ev n f x = .int k (a : Int) := by exact rfl) (hy : Cx.ev n f y = .int k (b : Int) := by exact rfl) (hb : 0 < b := by omega) : J P n w0 R l0 K ((κ, ⟨some d, .binOp .rem t x y u, ty, pos, aft, g⟩) :: rest) f L :=
  J.p hg (bin_run hx hy (fun w => by
    have h1 : ((a : Int).tmod (b : Int)) = ((a % b : Nat) : Int) := rfl
    have h2 : ¬ ((b : Int) = 0) := by omega
    have h3 : ¬ (b = 0) := by omega
    simp [binOp, Op.intDiv, h2, h3, h1, go_sem])) kk
theorem J.gshl {yk : IntKind} {j : Nat} (kk : J P n w0 R l0 K rest (upd f d (.int k ((a * 2 ^ j : Nat) : Int))) L) (hg : wantB n f l0 ⟨some d, .binOp .shl t x y u, ty, pos, aft, g⟩ = true := by exact rfl) (hx : Cx.ev n f x = .int k (a : Int) := by exact rfl) (hy : Cx.ev n f y = .int yk (j : Int) := by exact rfl) (hj : j ≤ k.bits := by first | (show _ ≤ 64; omega) | (show _ ≤ 32; omega)) (hw : k.wrap ((a * 2 ^ j : Nat) : Int) = ((a * 2 ^ j : Nat) : Int) := by first | exact wU64 (by omega) | exact wU32 (by omega)) : J P n w0 R l0 K ((κ, ⟨some d, .binOp .shl t x y u, ty, pos, aft, g⟩) :: rest) f L :=
  J.p hg (bin_run hx hy (fun w => by
    have hn : ¬ ((j : Int) < 0) := by omega
    have hm : min ((j : Int)).toNat k.bits = j := by rw [Int.toNat_natCast]; exact Nat.min_eq_left hj
    have hcast : (a : Int) * ((2 : Int) ^ j) = ((a * 2 ^ j : Nat) : Int) := by rw [Int.natCast_mul, Int.natCast_pow]; rfl
    simp only [binOp, Op.shift, if_neg hn, hm, hcast, hw]
    rfl)) kk
theorem J.gshr {yk : IntKind} {j : Nat} (kk : J P n w0 R l0 K rest (upd f d (.int k ((a / 2 ^ j : Nat) : Int))) L) (hg : wantB n f l0 ⟨some d, .binOp .shr t x y u, ty, pos, aft, g⟩ = true := by exact rfl) (hx : Cx.ev n f x = .int k (a : Int) := by exact rfl) (hy : Cx.ev n f y = .int yk (j : Int) := by exact rfl) (hj : j ≤ k.bits := by first | (show _ ≤ 64; omega) | (show _ ≤ 32; omega)) : J P n w0 R l0 K ((κ, ⟨some d, .binOp .shr t x y u, ty, pos, aft, g⟩) :: rest) f L :=
  J.p hg (bin_run hx hy (fun w => by
    have hn : ¬ ((j : Int) < 0) := by omega
    have hm : min ((j : Int)).toNat k.bits = j := by rw [Int.toNat_natCast]; exact Nat.min_eq_left hj
    have hcast : ((2 : Int) ^ j) = ((2 ^ j : Nat) : Int) := by rw [Int.natCast_pow]; rfl
    have hd : ((a : Int)).fdiv ((2 : Int) ^ j) = ((a / 2 ^ j : Nat) : Int) := by
      rw [hcast, Int.fdiv_eq_ediv_of_nonneg _ (Int.natCast_nonneg _)]
      rfl
    simp only [binOp, Op.shift, if_neg hn, hm, hd]
    rfl)) kk
theorem J.gand (kk : J P n w0 R l0 K rest (upd f d (.int k ((a &&& b : Nat) : Int))) L) (hg : wantB n f l0 ⟨some d, .binOp .and t x y u, ty, pos, aft, g⟩ = true := by exact rfl) (hx : Cx.ev n f x = .int k (a : Int) := by exact rfl) (hy : Cx.ev n f y = .int k (b : Int) := by exact rfl) (ha : a < 2 ^ k.bits := by first | (show _ < 18446744073709551616; omega) | (show _ < 4294967296; omega)) (hb : b < 2 ^ k.bits := by first | (show _ < 18446744073709551616; omega) | (show _ < 4294967296; omega)) (hw : k.wrap ((a &&& b : Nat) : Int) = ((a &&& b : Nat) : Int) := by first | exact wU64 (Nat.and_lt_two_pow (n := 64) _ (by omega)) | exact wU32 (Nat.and_lt_two_pow (n := 32) _ (by omega))) : J P n w0 R l0 K ((κ, ⟨some d, .binOp .and t x y u, ty, pos, aft, g⟩) :: rest) f L :=
  J.p hg (bin_run hx hy (fun w => by
    have e : (BitVec.ofInt k.bits (a : Int) &&& BitVec.ofInt k.bits (b : Int)).toNat = a &&& b := by rw [BitVec.toNat_and, bv_g _ _ ha, bv_g _ _ hb]
    have : (Op.intBits .and k (a : Int) (b : Int)).run P w = .ok (.int k ((a &&& b : Nat) : Int)) w := by
      show (pure (Value.int k (k.wrap ((BitVec.ofInt k.bits (a : Int) &&& BitVec.ofInt k.bits (b : Int)).toNat : Int))) : Sem Value).run P w = _
      rw [e, hw]; rfl
    simpa [binOp] using this)) kk
theorem J.gor (kk : J P n w0 R l0 K rest (upd f d (.int k ((a ||| b : Nat) : Int))) L) (hg : wantB n f l0 ⟨some d, .binOp .or t x y u, ty, pos, aft, g⟩ = true := by exact rfl) (hx : Cx.ev n f x = .int k (a : Int) := by exact rfl) (hy : Cx.ev n f y = .int k (b : Int) := by exact rfl) (ha : a < 2 ^ k.bits := by first | (show _ < 18446744073709551616; omega) | (show _ < 4294967296; omega)) (hb : b < 2 ^ k.bits := by first | (show _ < 18446744073709551616; omega) | (show _ < 4294967296; omega)) (hw : k.wrap ((a ||| b : Nat) : Int) = ((a ||| b : Nat) : Int) := by first | exact wU64 (Nat.or_lt_two_pow (n := 64) (by omega) (by omega)) | exact wU32 (Nat.or_lt_two_pow (n := 32) (by omega) (by omega))) : J P n w0 R l0 K ((κ, ⟨some d, .binOp .or t x y u, ty, pos, aft, g⟩) :: rest) f L :=
  J.p hg (bin_run hx hy (fun w => by
    have e : (BitVec.ofInt k.bits (a : Int) ||| BitVec.ofInt k.bits (b : Int)).toNat = a ||| b := by rw [BitVec.toNat_or, bv_g _ _ ha, bv_g _ _ hb]
    have : (Op.intBits .or k (a : Int) (b : Int)).run P w = .ok (.int k ((a ||| b : Nat) : Int)) w := by
      show (pure (Value.int k (k.wrap ((BitVec.ofInt k.bits (a : Int) ||| BitVec.ofInt k.bits (b : Int)).toNat : Int))) : Sem Value).run P w = _
      rw [e, hw]; rfl
    simpa [binOp] using this)) kk
theorem J.gcv {src dst : TypeId} {k1 k2 : IntKind} {ts : Go.Cx.TI} {s2 b2 : Nat} {z2 : Option Value} {r : Nat} (hΓ : Fits P Γ) (kk : J P n w0 R l0 K rest (upd f d (.int k2 (r : Int))) L) (hg : wantB n f l0 ⟨some d, .convert src dst x, ty, pos, aft, g⟩ = true := by exact rfl) (hx : Cx.ev n f x = .int k1 (a : Int) := by exact rfl) (hs : Cx.look Γ src = some ts := by exact rfl) (hd : Cx.look Γ dst = some ⟨.int k2, s2, z2, b2⟩ := by exact rfl) (hk : k2.wrap (a : Int) = (r : Int) := by first | exact wU64 (by omega) | exact wI64 (by omega) | exact wT32 _ | exact wT8 _) : J P n w0 R l0 K ((κ, ⟨some d, .convert src dst x, ty, pos, aft, g⟩) :: rest) f L := by
  obtain ⟨dd, s3, z3, b3⟩ := ts
  refine J.ev (v := .int k2 (r : Int)) hΓ hg ?_ kk
  simp only [pureEv, hx, hs, hd]
  rw [hk]
end
end Go.Proofs.YtdiciemlbhkilaaGreatDoor
namespace Go.Proofs.YtdiciemlbhkilaaGreatDoor
open Go Go.Cx Go.RowKit
set_option linter.unusedVariables false
set_option linter.unusedSimpArgs false
set_option maxHeartbeats 4000000
attribute [local irreducible] J JC thenK blockK loopK roundK drawK retK QW Qt pel List.set Calls
attribute [local irreducible] JE Br eK0 eK3 brK JR thenR
theorem asc_ext : ∀ {l m : List Int}, l.Pairwise (· < ·) → m.Pairwise (· < ·) → (∀ x, x ∈ l ↔ x ∈ m) → l = m
  | [], [], _, _, _ => rfl
  | [], y :: m, _, _, h => absurd ((h y).2 List.mem_cons_self) List.not_mem_nil
  | x :: l, [], _, _, h => absurd ((h x).1 List.mem_cons_self) List.not_mem_nil
  | x :: l, y :: m, hl, hm, h => by
    rw [List.pairwise_cons] at hl hm
    have e : x = y := by
      have h1 := (h x).1 List.mem_cons_self
      have h2 := (h y).2 List.mem_cons_self
      rcases List.mem_cons.1 h1 with h1 | h1
      · exact h1
      · rcases List.mem_cons.1 h2 with h2 | h2
        · exact h2.symm
        · have := hm.1 x h1; have := hl.1 y h2; omega
    subst e
    rw [asc_ext hl.2 hm.2 fun z => ?_]
    constructor
    · intro hz
      have := hl.1 z hz
      rcases List.mem_cons.1 ((h z).1 (List.mem_cons_of_mem _ hz)) with e | e
      · omega
      · exact e
    · intro hz
      have := hm.1 z hz
      rcases List.mem_cons.1 ((h z).2 (List.mem_cons_of_mem _ hz)) with e | e
      · omega
      · exact e
def memS (s : Nat × Nat) : List Int := ((List.range 128).filter fun k : Nat => hasB s ((k : Int) + 1)).map fun k : Nat => (k : Int) + 1
theorem mem_memS (s : Nat × Nat) (u : Int) : u ∈ memS s ↔ hasB s u = true := by
  unfold memS
  rw [List.mem_map]
  constructor
  · rintro ⟨k, hk, rfl⟩
    exact (List.mem_filter.1 hk).2
  · intro h
    have hr := has_rng h
    refine ⟨(u - 1).toNat, List.mem_filter.2 ⟨List.mem_range.2 (by omega), ?_⟩, by omega⟩
    rw [show (((u - 1).toNat : Nat) : Int) + 1 = u by omega]; exact h
theorem memS_asc (s : Nat × Nat) : (memS s).Pairwise (· < ·) := by
  unfold memS
  rw [List.pairwise_map]
  have h1 : (List.range 128).Pairwise (· < ·) := List.pairwise_lt_range
  exact (h1.filter _).imp fun h => by omega
theorem memS_zero : memS (0, 0) = [] := by
  cases h : memS (0, 0) with
  | nil => rfl
  | cons x l =>
    have := (mem_memS (0, 0) x).1 (by rw [h]; exact List.mem_cons_self)
    rw [has_zero] at this
    cases this
theorem low_word {x : Nat} (h0 : x ≠ 0) (hx : x < 2 ^ 64) : Lib.ctz 64 x < 64 ∧ x.testBit (Lib.ctz 64 x) = true ∧ (∀ j, j < Lib.ctz 64 x → x.testBit j = false) ∧ (∀ j, (x &&& (x - 1)).testBit j = (x.testBit j && decide (j ≠ Lib.ctz 64 x))) ∧ x &&& (x - 1) < x := by
  have hc : Lib.ctz 64 x = Lib.ctzFrom 64 x := by unfold Lib.ctz; rw [if_neg h0]
  obtain ⟨m, hm, hk⟩ := Lib.ctzFrom_spec 64 x (by omega) hx
  rw [hc]
  generalize Lib.ctzFrom 64 x = k at hm hk
  have hp := Nat.two_pow_pos k
  have t1 : ∀ j, x.testBit j = if j < k then false else (2 * m + 1).testBit (j - k) := fun j => by
    have := Nat.testBit_two_pow_mul_add (2 * m + 1) (b := 0) (i := k) hp j
    rw [Nat.add_zero, ← hm] at this
    rw [this]
    split
    · exact Nat.zero_testBit _
    · rfl
  have e2 : x - 1 = 2 ^ k * (2 * m) + (2 ^ k - 1) := by
    rw [hm, Nat.mul_add, Nat.mul_one]; omega
  have t2 : ∀ j, k ≤ j → (x - 1).testBit j = (2 * m).testBit (j - k) := fun j hj => by
    rw [e2, Nat.testBit_two_pow_mul_add (2 * m) (b := 2 ^ k - 1) (i := k) (by omega) j, if_neg (by omega)]
  have b0 : ∀ j, j < k → x.testBit j = false := fun j hj => by rw [t1, if_pos hj]
  have bk : x.testBit k = true := by
    rw [t1, if_neg (by omega), Nat.sub_self, Nat.testBit_zero]
    simp
  refine ⟨hk, bk, b0, fun j => ?_, ?_⟩
  · rw [Nat.testBit_and]
    by_cases h1 : j < k
    · rw [b0 j h1]; rfl
    · rw [t2 j (by omega)]
      by_cases h2 : j = k
      · subst h2
        rw [Nat.sub_self, Nat.testBit_zero]
        simp
      · obtain ⟨i, hi⟩ : ∃ i, j - k = i + 1 := ⟨j - k - 1, by omega⟩
        rw [t1, if_neg h1, hi, Nat.testBit_succ, Nat.testBit_succ, show (2 * m + 1) / 2 = m by omega, show 2 * m / 2 = m by omega]
        simp [h2]
  · have := @Nat.and_le_right x (x - 1)
    omega
theorem memS_low {x t : Nat} (h0 : x ≠ 0) (hx : x < 2 ^ 64) : memS (x, t) = (((Lib.ctz 64 x : Nat) : Int) + 1) :: memS (x &&& (x - 1), t) := by
  obtain ⟨l1, l2, l3, l4, _⟩ := low_word h0 hx
  generalize Lib.ctz 64 x = k at *
  have key : ∀ u : Int, hasB (x &&& (x - 1), t) u = true ↔ (hasB (x, t) u = true ∧ u ≠ (k : Int) + 1) := fun u => by
    unfold hasB
    by_cases h1 : 1 ≤ u ∧ u ≤ 64
    · rw [if_pos h1, if_pos h1]
      show (x &&& (x - 1)).testBit (u - 1).toNat = true ↔ x.testBit (u - 1).toNat = true ∧ _
      rw [l4, Bool.and_eq_true, decide_eq_true_iff]
      constructor
      · rintro ⟨a, b⟩; exact ⟨a, by omega⟩
      · rintro ⟨a, b⟩; exact ⟨a, by omega⟩
    · rw [if_neg h1, if_neg h1]
      constructor
      · intro h; exact ⟨h, by omega⟩
      · exact fun h => h.1
  have hk : hasB (x, t) ((k : Int) + 1) = true := by
    unfold hasB
    rw [if_pos (by omega)]
    show x.testBit ((k : Int) + 1 - 1).toNat = true
    rw [show ((k : Int) + 1 - 1).toNat = k by omega]; exact l2
  refine asc_ext (memS_asc _) (List.pairwise_cons.2 ⟨fun u hu => ?_, memS_asc _⟩) fun u => ?_
  · obtain ⟨h1, h2⟩ := (key u).1 ((mem_memS _ _).1 hu)
    have hr := has_rng h1
    by_cases h3 : u ≤ 64
    · by_cases h4 : u < (k : Int) + 1
      · have := l3 (u - 1).toNat (by omega)
        unfold hasB at h1
        rw [if_pos (by omega)] at h1
        have h1 : x.testBit (u - 1).toNat = true := h1
        rw [this] at h1; cases h1
      · omega
    · omega
  · rw [mem_memS, List.mem_cons, mem_memS, key]
    constructor
    · intro h
      by_cases e : u = (k : Int) + 1
      · exact .inl e
      · exact .inr ⟨h, e⟩
    · rintro (e | h)
      · rw [e]; exact hk
      · exact h.1
theorem memS_high {x : Nat} (h0 : x ≠ 0) (hx : x < 2 ^ 64) : memS (0, x) = (((Lib.ctz 64 x : Nat) : Int) + 65) :: memS (0, x &&& (x - 1)) := by
  obtain ⟨l1, l2, l3, l4, _⟩ := low_word h0 hx
  generalize Lib.ctz 64 x = k at *
  have key : ∀ u : Int, hasB (0, x &&& (x - 1)) u = true ↔ (hasB (0, x) u = true ∧ u ≠ (k : Int) + 65) := fun u => by
    unfold hasB
    by_cases h1 : 1 ≤ u ∧ u ≤ 64
    · rw [if_pos h1, if_pos h1]
      constructor
      · intro h; exact ⟨h, by omega⟩
      · exact fun h => h.1
    · rw [if_neg h1, if_neg h1]
      by_cases h2 : 65 ≤ u ∧ u ≤ 128
      · rw [if_pos h2, if_pos h2]
        show (x &&& (x - 1)).testBit (u - 65).toNat = true ↔ x.testBit (u - 65).toNat = true ∧ _
        rw [l4, Bool.and_eq_true, decide_eq_true_iff]
        constructor
        · rintro ⟨a, b⟩; exact ⟨a, by omega⟩
        · rintro ⟨a, b⟩; exact ⟨a, by omega⟩
      · rw [if_neg h2, if_neg h2]; simp
  have hk : hasB (0, x) ((k : Int) + 65) = true := by
    unfold hasB
    rw [if_neg (by omega), if_pos (by omega)]
    show x.testBit ((k : Int) + 65 - 65).toNat = true
    rw [show ((k : Int) + 65 - 65).toNat = k by omega]; exact l2
  refine asc_ext (memS_asc _) (List.pairwise_cons.2 ⟨fun u hu => ?_, memS_asc _⟩) fun u => ?_
  · obtain ⟨h1, h2⟩ := (key u).1 ((mem_memS _ _).1 hu)
    have hr := has_rng h1
    by_cases h3 : u ≤ 64
    · unfold hasB at h1
      rw [if_pos (by omega)] at h1
      have h1 : (0 : Nat).testBit (u - 1).toNat = true := h1
      rw [Nat.zero_testBit] at h1; cases h1
    · by_cases h4 : u < (k : Int) + 65
      · have := l3 (u - 65).toNat (by omega)
        unfold hasB at h1
        rw [if_neg (by omega), if_pos (by omega)] at h1
        have h1 : x.testBit (u - 65).toNat = true := h1
        rw [this] at h1; cases h1
      · omega
  · rw [mem_memS, List.mem_cons, mem_memS, key]
    constructor
    · intro h
      by_cases e : u = (k : Int) + 65
      · exact .inl e
      · exact .inr ⟨h, e⟩
    · rintro (e | h)
      · rw [e]; exact hk
      · exact h.1
def Tab64 (w : World) : Prop := Lib.TabIs Tryz.prog w "math/bits.deBruijn64tab" .u8 (Lib.deBruijn64tab.map Int.ofNat)
theorem Tab64.below {w w' : World} (h : Tab64 w) (hb : Below w.heap.size w w') : Tab64 w' := by
  unfold Tab64 Lib.TabIs at *
  rw [← h]
  unfold World.var? at *
  cases hg : Tryz.prog.globalNamed "math/bits.deBruijn64tab" with
  | none => rfl
  | some g =>
    rw [hg] at h
    simp only [Option.bind_some] at h ⊢
    have : w'.heap[g]? = w.heap[g]? := by
      cases hw : w.heap[g]? with
      | none => rw [hw] at h; cases h
      | some o => exact (hb.block g (Array.getElem?_eq_some_iff.1 hw).1).trans hw
    rw [this]
theorem eTz : Entr Tryz.prog 95 := Entr.of Tryz.func95 rfl rfl
theorem tz_any (x : Nat) (hx : x < 2 ^ 64) (w : World) (hT : Tab64 w) : Calls Tryz.prog 95 #[.int .u64 (x : Int)] w fun e w' => e = .returned (.int .i64 (Lib.ctz 64 x : Nat)) ∧ Below w.heap.size w w' :=
  (Tryz.tz64 x (by have e : (2 : Nat) ^ 64 = 18446744073709551616 := rfl; omega) w (fun _ j hj => by
    have := Lib.TabIs.cell hT (g := 0) (by kernel_rfl) j (by rw [List.length_map]; exact hj)
    rw [this]
    congr 2
    rw [List.getD_eq_getElem?_getD, List.getElem?_map, List.getD_eq_getElem?_getD, List.getElem?_eq_getElem hj]
    rfl)).mono fun e w' ⟨h1, h2⟩ => ⟨h1, by rw [h2]; exact Below.refl _ _⟩
end Go.Proofs.YtdiciemlbhkilaaGreatDoor
namespace Go.Proofs.YtdiciemlbhkilaaGreatDoor
open Go Go.Cx Go.RowKit
set_option linter.unusedVariables false
set_option linter.unusedSimpArgs false
set_option maxHeartbeats 4000000
attribute [local irreducible] J JC thenK blockK loopK roundK drawK retK QW Qt pel List.set Calls
attribute [local irreducible] JE Br eK0 eK3 brK JR thenR JL
section
variable {P : Program} {n : Nat} {w0 : World} {R : Heap} {l0 : List Oper} {K : Exit → Fr → List Heap → Prop} {f : Fr} {L : List Heap} {rest : List (Nat × Oper)} {κ : Nat}
variable {d : Nat} {ty : TypeId} {pos : String} {aft : Array Edge} {g : Option (Nat × Bool)} {x : Operand}
theorem J.asg {P : Program} {n : Nat} {w0 : World} {R : Heap} {l0 : List Oper} {K : Exit → Fr → List Heap → Prop} {f : Fr} {L : List Heap} {rest : List (Nat × Oper)} {κ d : Nat} {x : Operand} {v : Value} {ty : TypeId} {pos : String} {aft : Array Edge} {g : Option (Nat × Bool)} (k : J P n w0 R l0 K rest (upd f d v) L) (hg : wantB n f l0 ⟨some d, .assign x, ty, pos, aft, g⟩ = true := by exact rfl) (hx : Cx.ev n f x = v := by exact rfl) : J P n w0 R l0 K ((κ, ⟨some d, .assign x, ty, pos, aft, g⟩) :: rest) f L := J.p hg (fun w => by simp only [execOp, hx]; rfl) k
end
section
variable {P : Program} {n : Nat} {w0 : World} {R : Heap} {l0 : List Oper} {K : Exit → Fr → List Heap → Prop} {f : Fr} {L : List Heap} {rest : List (Nat × Oper)} {κ : Nat} {Γ : List (Nat × Go.Cx.TI)}
variable {d : Nat} {ty : TypeId} {pos : String} {aft : Array Edge} {g : Option (Nat × Bool)}
theorem J.xI {t e' : TypeId} {m s1 b1 s2 b2 : Nat} {z1 z2 : Option Value} {de : TypeDesc} {i : Int} {ki : IntKind} {x y : Operand} {cs : List Value} {v : Value} (hΓ : Fits P Γ) (k : J P n w0 R l0 K rest (upd f d v) L)
    (hg : wantB n f l0 ⟨some d, .index t x y, ty, pos, aft, g⟩ = true := by exact rfl) (hx : Cx.ev n f x = .agg ⟨cs⟩ := by exact rfl) (hy : Cx.ev n f y = .int ki i := by exact rfl)
    (ht : Cx.look Γ t = some ⟨.array m e', s1, z1, b1⟩ := by exact rfl) (he : Cx.look Γ e' = some ⟨de, s2, z2, b2⟩ := by exact rfl) (hv : partEv Γ e' cs (i.toNat * s2) = some v := by exact rfl) (h0 : 0 ≤ i := by omega) (hlt : i < (m : Int) := by omega) : J P n w0 R l0 K ((κ, ⟨some d, .index t x y, ty, pos, aft, g⟩) :: rest) f L :=
  J.p hg (fun w => by
    have hp := partEv_ok hΓ hv w
    have hsz := sizeOf_run hΓ he w
    have : (Instr.index t (.agg ⟨cs⟩) (.int ki i)).run P w = .ok v w := by
      unfold Instr.index
      simp only [asIntOf, Sem.run_bind, Sem.run_pure, Result.andThen_ok, run_underlying (hΓ t _ ht).1]
      rw [if_pos ⟨h0, hlt⟩]
      simp only [Sem.run_bind, hsz, Result.andThen_ok]
      exact hp
    simp only [execOp, hx, hy, Sem.run_bind, this, Result.andThen_ok]
    rfl) k
end
theorem eMembers : Entr Tryz.prog 53 := Entr.of Tryz.func53 rfl rfl
theorem eMem1 : Entr Tryz.prog 94 := Entr.of Tryz.func94 rfl rfl
def sO (s : Nat × Nat) : Obj := .cells ⟨[.int .u64 (s.1 : Int), .int .u64 (s.2 : Int)]⟩ 40 (0, 0)
theorem members_any (s : Nat × Nat) {w0 w : World} {R : Heap} {L : List Heap} (hw : H w0 R L w) :
    Calls Tryz.prog 53 #[sv s] w fun e w' => ∃ v L', e = .returned v ∧ H w0 R L' w' ∧ ∃ b, v = .func (.func 94) ⟨[]⟩ ⟨[.pointer (some ⟨b, 0, none⟩)]⟩ ∧ L' = [(b, sO s)] :: L := by
  refine calls_in Tryz.func53 Tryz.ntmps53 rfl rfl (hw) ?_
  repeat' first
    | (refine J.isJ ?_; first | (first | (refine J.o 0 ?_; first | refine J.ev' hΓ ?_ | refine J.asg (v := .nilFunc) ?_) | (refine J.o 6 ?_; refine J.bx (fun b => ?_))) | (first | (refine J.o 0 ?_; refine J.ev' hΓ ?_) | refine J.nil ?_ | (refine J.o 3 ?_; first | refine J.ev' hΓ ?_) | (refine J.o 6 ?_; refine J.bx (fun _ => ?_)) | (refine J.o 10 ?_; refine J.ev' hΓ ?_) | (refine J.o 11 ?_; refine J.ev' hΓ ?_) | (refine J.o 14 ?_; refine J.mf hΓ ?_)))
    | (first | refine JC.seq ?_ | refine JC.region ?_ | refine JC.ret ?_ | refine thenK.nn ?_)
    | (fail)
    | fail
  all_goals first | (exfalso; omega) | skip
  exact ret1f rfl rfl rfl (fun w1 hw => ⟨_, _, rfl, hw, b, rfl, rfl⟩)
set_option maxHeartbeats 16000000 in
theorem mem1_any (s : Nat × Nat) (hs : okS s) (lp m : Nat) {b : Nat} {w0 : World} {R : Heap} (hT : Tab64 w0) (I : List Int → List Heap → Prop) (S : List Heap → Prop) (hI : ∀ l L, I l L → Rd R L b (sO s))
    (hround : ∀ v l L, I (v :: l) L → ∀ w, H w0 R L w → ∃ fn tmps assign body, (Instr.yield lp ⟨[.int .i64 v]⟩).run Tryz.prog w = .ok (.round lp fn tmps assign body) w ∧ RoundIn (FR none) (m - 1) Tryz.prog lp fn tmps assign body w fun e w' => ∃ v' L', e = .returned v' ∧ H w0 R L' w' ∧ ∃ q : Bool, v' = .bool q ∧ (q = true → I l L') ∧ (q = false → S L'))
    {L : List Heap} (h0 : I (memS s) L) {w : World} (hw : H w0 R L w) :
    CallsIn (FR none) m Tryz.prog 94 ⟨[.func (.yield lp) ⟨[]⟩ ⟨[]⟩, .pointer (some ⟨b, 0, none⟩)]⟩ w fun e w' => ∃ v L', e = .returned v ∧ H w0 R L' w' ∧ (I [] L' ∨ S L') := by
  obtain ⟨s1, s2⟩ := hs
  have h2 := hI _ L h0
  unfold sO at h2
  refine calls_inR Tryz.func94 Tryz.ntmps94 rfl rfl hw ?_
  repeat' first
    | (refine J.isJ ?_; first | ((refine J.o 4 ?_; refine J.lR hΓ ?_ (hr := h2))) | (first | (refine J.o 0 ?_; refine J.ev' hΓ ?_) | refine J.nil ?_ | (refine J.o 4 ?_; first | refine J.lR hΓ ?_) | (refine J.o 3 ?_; first | refine J.ev' hΓ ?_) | (refine J.o 1 ?_; first | refine J.ad ?_ | refine J.mu ?_) | (refine J.o 10 ?_; refine J.ev' hΓ ?_) | (refine J.o 11 ?_; refine J.ev' hΓ ?_)))
    | (first | refine JR.seq ?_ | refine JR.region (by kernel_rfl) ?_ | refine JR.block ?_ | refine JR.ret ?_ | refine JR.exit ?_ | refine JR.skip ?_ | refine thenR.nn ?_ | refine thenR.r ?_ | refine thenR.x ?_ | refine blockK.nn ?_ | refine blockK.r ?_ | refine blockK.hit rfl ?_ | refine JR.condT rfl ?_ | refine JR.condF rfl ?_ | (refine JR.cond rfl (fun hc => ?_) (fun hc => ?_) <;> ((try simp only [tcS] at hc) <;> first | (first | (exact absurd rfl hc) | (exfalso; omega) | (exact (tF hc (by assumption)).elim) | (exact (fT hc (by assumption)).elim)) | skip)) | refine loopK.r ?_ | refine loopK.x ?_)
    | (fail)
    | fail
  all_goals first | (exfalso; omega) | skip
  refine JR.loop (fun i => i == 3 || i == 4 || Nat.ble 6 i) (fun k g L' => ∃ i : Nat, g 6 = .int .i64 (i : Int) ∧ i + k = 2 ∧ I (memS (if i = 0 then s else if i = 1 then (0, s.2) else (0, 0))) L') 2 ⟨0, rfl, by omega, h0⟩ ?_
  rintro k g L' ⟨i, e6, hik, hi⟩
  rcases i with _ | _ | _ | i
  · have hi : I (memS s) L' := hi
    have e6 : g 6 = .int .i64 0 := e6
    refine JR.pin 6 e6 ?_
    clear e6
    repeat' first
      | (refine J.isJ ?_; first | ((refine J.o 12 ?_; refine J.xI hΓ ?_)) | (first | (refine J.o 0 ?_; refine J.ev' hΓ ?_) | refine J.nil ?_ | (refine J.o 4 ?_; first | refine J.lR hΓ ?_) | (refine J.o 3 ?_; first | refine J.ev' hΓ ?_) | (refine J.o 1 ?_; first | refine J.ad ?_ | refine J.mu ?_) | (refine J.o 10 ?_; refine J.ev' hΓ ?_) | (refine J.o 11 ?_; refine J.ev' hΓ ?_)))
      | (first | refine JR.seq ?_ | refine JR.region (by kernel_rfl) ?_ | refine JR.block ?_ | refine JR.ret ?_ | refine JR.exit ?_ | refine JR.skip ?_ | refine thenR.nn ?_ | refine thenR.r ?_ | refine thenR.x ?_ | refine blockK.nn ?_ | refine blockK.r ?_ | refine blockK.hit rfl ?_ | refine JR.condT rfl ?_ | refine JR.condF rfl ?_ | (refine JR.cond rfl (fun hc => ?_) (fun hc => ?_) <;> ((try simp only [tcS] at hc) <;> first | (first | (exact absurd rfl hc) | (exfalso; omega) | (exact (tF hc (by assumption)).elim) | (exact (fT hc (by assumption)).elim)) | skip)) | refine loopK.r ?_ | refine loopK.x ?_)
      | (fail)
      | fail
    all_goals first | (exfalso; omega) | skip
    refine JR.loop (fun i => i == 4 || (Nat.ble 10 i && Nat.ble i 24)) (fun k g L' => g 4 = .int .u64 (k : Int) ∧ k < 2 ^ 64 ∧ I (memS (k, s.2)) L') s.1 ⟨rfl, s1, hi⟩ ?_
    rintro k g L' ⟨e4, hk64, hi⟩
    refine JR.pin 4 e4 ?_
    clear e4
    by_cases hk0 : k = 0
    · subst hk0
      repeat' first
        | (refine J.isJ ?_; first | (fail) | (first | (refine J.o 0 ?_; refine J.ev' hΓ ?_) | refine J.nil ?_ | (refine J.o 4 ?_; first | refine J.lR hΓ ?_) | (refine J.o 3 ?_; first | refine J.ev' hΓ ?_) | (refine J.o 1 ?_; first | refine J.ad ?_ | refine J.mu ?_) | (refine J.o 10 ?_; refine J.ev' hΓ ?_) | (refine J.o 11 ?_; refine J.ev' hΓ ?_)))
        | (first | refine JR.seq ?_ | refine JR.region (by kernel_rfl) ?_ | refine JR.block ?_ | refine JR.ret ?_ | refine JR.exit ?_ | refine JR.skip ?_ | refine thenR.nn ?_ | refine thenR.r ?_ | refine thenR.x ?_ | refine blockK.nn ?_ | refine blockK.r ?_ | refine blockK.hit rfl ?_ | refine JR.condT rfl ?_ | refine JR.condF rfl ?_ | (refine JR.cond rfl (fun hc => ?_) (fun hc => ?_) <;> ((try simp only [tcS] at hc) <;> first | (first | (exact absurd rfl hc) | (exfalso; omega) | (exact (tF hc (by assumption)).elim) | (exact (fT hc (by assumption)).elim)) | skip)) | refine loopK.r ?_ | refine loopK.x ?_)
        | (fail)
        | fail
      all_goals first | (exfalso; omega) | skip
      refine loopK.nn 1 (by omega) (by repeat (first | refine Ag.upd rfl ?_ | exact Ag.hv | refine Ag.hv2 (fun i hi => by simp at hi ⊢; omega) ?_)) ⟨1, rfl, by omega, hi⟩
    obtain ⟨l1, _, _, _, l5⟩ := low_word hk0 hk64
    rw [memS_low hk0 hk64] at hi
    have hgo := hround _ _ _ hi
    iterate 13 first
      | (refine J.isJ ?_; first | (fail) | (first | (refine J.o 0 ?_; refine J.ev' hΓ ?_) | refine J.nil ?_ | (refine J.o 4 ?_; first | refine J.lR hΓ ?_) | (refine J.o 3 ?_; first | refine J.ev' hΓ ?_) | (refine J.o 1 ?_; first | refine J.ad ?_ | refine J.mu ?_) | (refine J.o 10 ?_; refine J.ev' hΓ ?_) | (refine J.o 11 ?_; refine J.ev' hΓ ?_)))
      | (first | refine JR.seq ?_ | refine JR.region (by kernel_rfl) ?_ | refine JR.block ?_ | refine JR.ret ?_ | refine JR.exit ?_ | refine JR.skip ?_ | refine thenR.nn ?_ | refine thenR.r ?_ | refine thenR.x ?_ | refine blockK.nn ?_ | refine blockK.r ?_ | refine blockK.hit rfl ?_ | refine JR.condT rfl ?_ | refine JR.condF rfl ?_ | (refine JR.cond rfl (fun hc => ?_) (fun hc => ?_) <;> ((try simp only [tcS] at hc) <;> first | (first | (exact absurd rfl hc) | (exfalso; omega) | (exact (tF hc (by assumption)).elim) | (exact (fT hc (by assumption)).elim)) | skip)) | refine loopK.r ?_ | refine loopK.x ?_)
      | (fail)
      | fail
    all_goals first | (exfalso; omega) | skip
    refine JR.regionL ?_
    refine JL.of (fun c h => by cases h) ?_
    (refine J.isJ ?_; refine J.o 0 ?_; refine J.ev' hΓ ?_)
    (refine J.nil ?_; refine nextL.nn ?_)
    refine JL.of (fun c h => by cases h) ?_
    (refine J.isJ ?_; refine J.o 0 ?_; refine J.ev' hΓ ?_)
    (refine J.nil ?_; refine nextL.nn ?_)
    refine JL.of (fun c h => by cases h) ?_
    (refine J.isJ ?_; refine J.o 1 ?_; refine J.mu ?_)
    (refine J.nil ?_; refine nextL.nn ?_)
    refine JL.of (fun c h => by cases h) ?_
    (refine J.isJ ?_; refine J.o 0 ?_; refine J.ev' hΓ ?_)
    (refine J.nil ?_; refine nextL.nn ?_)
    refine JL.of (fun c h => by cases h) ?_
    (refine J.isJ ?_; (refine J.fc 95 ?_; refine J.call0 eTz rfl rfl (fun w hw => tz_any k hk64 w (hT.below hw.below)) ?_))
    (refine J.nil ?_; refine nextL.nn ?_)
    refine JL.of (fun c h => by cases h) ?_
    (refine J.isJ ?_; refine J.o 1 ?_; refine J.ad ?_)
    (refine J.nil ?_; refine nextL.nn ?_)
    refine JL.of (fun c h => by cases h) ?_
    (refine J.isJ ?_; refine J.o 1 ?_; refine J.ad ?_)
    (refine J.nil ?_; refine nextL.nn ?_)
    refine JL.yield (vs := [.int .i64 (((Lib.ctz 64 k : Nat) : Int) + 1)]) (Φ := fun v' L' => ∃ q : Bool, v' = .bool q ∧ (q = true → I (memS (k &&& (k - 1), s.2)) L') ∧ (q = false → S L')) rfl rfl (by show some [Value.int .i64 (64 * 0 + ((Lib.ctz 64 k : Nat) : Int) + 1)] = _; congr 3; omega) hgo ?_
    rintro _ L2 ⟨q, rfl, hq1, hq2⟩
    cases q
    all_goals (
      refine JL.of (fun c h => by cases h) ?_
      (refine J.isJ ?_; first | (refine J.o 0 ?_; refine J.ev' hΓ ?_) | refine J.nil ?_ | refine J.kd ?_ | (refine J.o 4 ?_; first | refine J.lT default hΓ ?_ | refine J.lR hΓ ?_) | (refine J.o 3 ?_; first | refine J.iA hΓ ?_ | refine J.iJ hΓ ?_ | refine J.fP hΓ ?_ | refine J.iC hΓ ?_ | refine J.ev' hΓ ?_) | (refine J.o 1 ?_; first | refine J.ad ?_ | refine J.sb ?_ | refine J.ng ?_ | refine J.mu ?_) | (refine J.o 5 ?_; first | refine J.t0 hΓ ?_ | refine J.t1 hΓ ?_ | refine J.t2 hΓ ?_ | refine J.tT _ default hΓ (fun _ _ => ?_) | refine J.tT1 _ default hΓ (fun _ _ => ?_) | refine J.tT2 _ default hΓ (fun _ _ => ?_)) | (refine J.o 6 ?_; refine J.bx (fun _ => ?_)) | (refine J.o 7 ?_; refine J.al hΓ (fun _ => ?_)) | (refine J.o 8 ?_; refine J.bd hΓ ?_) | (refine J.o 9 ?_; refine J.bl hΓ (fun _ => ?_)) | (refine J.o 10 ?_; refine J.ev' hΓ ?_) | (refine J.o 11 ?_; refine J.ev' hΓ ?_) | (refine J.o 14 ?_; refine J.mf hΓ ?_) | refine J.kn ?_)
      (refine J.nil ?_; refine nextL.nn ?_)
      refine JL.nil ?_)
    ·
      repeat' first
        | (refine J.isJ ?_; first | (fail) | (first | (refine J.o 0 ?_; refine J.ev' hΓ ?_) | refine J.nil ?_ | (refine J.o 4 ?_; first | refine J.lR hΓ ?_) | (refine J.o 3 ?_; first | refine J.ev' hΓ ?_) | (refine J.o 1 ?_; first | refine J.ad ?_ | refine J.mu ?_) | (refine J.o 10 ?_; refine J.ev' hΓ ?_) | (refine J.o 11 ?_; refine J.ev' hΓ ?_)))
        | (first | refine JR.seq ?_ | refine JR.region (by kernel_rfl) ?_ | refine JR.block ?_ | refine JR.ret ?_ | refine JR.exit ?_ | refine JR.skip ?_ | refine thenR.nn ?_ | refine thenR.r ?_ | refine thenR.x ?_ | refine blockK.nn ?_ | refine blockK.r ?_ | refine blockK.hit rfl ?_ | refine JR.condT rfl ?_ | refine JR.condF rfl ?_ | (refine JR.cond rfl (fun hc => ?_) (fun hc => ?_) <;> ((try simp only [tcS] at hc) <;> first | (first | (exact absurd rfl hc) | (exfalso; omega) | (exact (tF hc (by assumption)).elim) | (exact (fT hc (by assumption)).elim)) | skip)) | refine loopK.r ?_ | refine loopK.x ?_)
        | (fail)
        | fail
      all_goals first | (exfalso; omega) | skip
      refine ret0 rfl (fun w hw => ?_)
      exact ⟨_, _, rfl, hw, Or.inr (hq2 rfl)⟩
    ·
      repeat' first
        | (refine J.isJ ?_; first | ((refine J.o 1 ?_; first | refine J.gsub (k := .u64) (a := k) (b := 1) ?_ | refine J.gand (k := .u64) (a := k) (b := k - 1) ?_)) | (first | (refine J.o 0 ?_; refine J.ev' hΓ ?_) | refine J.nil ?_ | (refine J.o 4 ?_; first | refine J.lR hΓ ?_) | (refine J.o 3 ?_; first | refine J.ev' hΓ ?_) | (refine J.o 1 ?_; first | refine J.ad ?_ | refine J.mu ?_) | (refine J.o 10 ?_; refine J.ev' hΓ ?_) | (refine J.o 11 ?_; refine J.ev' hΓ ?_)))
        | (first | refine JR.seq ?_ | refine JR.region (by kernel_rfl) ?_ | refine JR.block ?_ | refine JR.ret ?_ | refine JR.exit ?_ | refine JR.skip ?_ | refine thenR.nn ?_ | refine thenR.r ?_ | refine thenR.x ?_ | refine blockK.nn ?_ | refine blockK.r ?_ | refine blockK.hit rfl ?_ | refine JR.condT rfl ?_ | refine JR.condF rfl ?_ | (refine JR.cond rfl (fun hc => ?_) (fun hc => ?_) <;> ((try simp only [tcS] at hc) <;> first | (first | (exact absurd rfl hc) | (exfalso; omega) | (exact (tF hc (by assumption)).elim) | (exact (fT hc (by assumption)).elim)) | skip)) | refine loopK.r ?_ | refine loopK.x ?_)
        | (fail)
        | fail
      all_goals first | (exfalso; omega) | skip
      refine loopK.nn (k &&& (k - 1)) l5 (by repeat (first | refine Ag.upd rfl ?_ | exact Ag.hv)) ⟨rfl, by omega, hq1 rfl⟩
  · have hi : I (memS (0, s.2)) L' := hi
    have e6 : g 6 = .int .i64 1 := e6
    refine JR.pin 6 e6 ?_
    clear e6
    repeat' first
      | (refine J.isJ ?_; first | ((refine J.o 12 ?_; refine J.xI hΓ ?_)) | (first | (refine J.o 0 ?_; refine J.ev' hΓ ?_) | refine J.nil ?_ | (refine J.o 4 ?_; first | refine J.lR hΓ ?_) | (refine J.o 3 ?_; first | refine J.ev' hΓ ?_) | (refine J.o 1 ?_; first | refine J.ad ?_ | refine J.mu ?_) | (refine J.o 10 ?_; refine J.ev' hΓ ?_) | (refine J.o 11 ?_; refine J.ev' hΓ ?_)))
      | (first | refine JR.seq ?_ | refine JR.region (by kernel_rfl) ?_ | refine JR.block ?_ | refine JR.ret ?_ | refine JR.exit ?_ | refine JR.skip ?_ | refine thenR.nn ?_ | refine thenR.r ?_ | refine thenR.x ?_ | refine blockK.nn ?_ | refine blockK.r ?_ | refine blockK.hit rfl ?_ | refine JR.condT rfl ?_ | refine JR.condF rfl ?_ | (refine JR.cond rfl (fun hc => ?_) (fun hc => ?_) <;> ((try simp only [tcS] at hc) <;> first | (first | (exact absurd rfl hc) | (exfalso; omega) | (exact (tF hc (by assumption)).elim) | (exact (fT hc (by assumption)).elim)) | skip)) | refine loopK.r ?_ | refine loopK.x ?_)
      | (fail)
      | fail
    all_goals first | (exfalso; omega) | skip
    refine JR.loop (fun i => i == 4 || (Nat.ble 10 i && Nat.ble i 24)) (fun k g L' => g 4 = .int .u64 (k : Int) ∧ k < 2 ^ 64 ∧ I (memS (0, k)) L') s.2 ⟨rfl, s2, hi⟩ ?_
    rintro k g L' ⟨e4, hk64, hi⟩
    refine JR.pin 4 e4 ?_
    clear e4
    by_cases hk0 : k = 0
    · subst hk0
      repeat' first
        | (refine J.isJ ?_; first | (fail) | (first | (refine J.o 0 ?_; refine J.ev' hΓ ?_) | refine J.nil ?_ | (refine J.o 4 ?_; first | refine J.lR hΓ ?_) | (refine J.o 3 ?_; first | refine J.ev' hΓ ?_) | (refine J.o 1 ?_; first | refine J.ad ?_ | refine J.mu ?_) | (refine J.o 10 ?_; refine J.ev' hΓ ?_) | (refine J.o 11 ?_; refine J.ev' hΓ ?_)))
        | (first | refine JR.seq ?_ | refine JR.region (by kernel_rfl) ?_ | refine JR.block ?_ | refine JR.ret ?_ | refine JR.exit ?_ | refine JR.skip ?_ | refine thenR.nn ?_ | refine thenR.r ?_ | refine thenR.x ?_ | refine blockK.nn ?_ | refine blockK.r ?_ | refine blockK.hit rfl ?_ | refine JR.condT rfl ?_ | refine JR.condF rfl ?_ | (refine JR.cond rfl (fun hc => ?_) (fun hc => ?_) <;> ((try simp only [tcS] at hc) <;> first | (first | (exact absurd rfl hc) | (exfalso; omega) | (exact (tF hc (by assumption)).elim) | (exact (fT hc (by assumption)).elim)) | skip)) | refine loopK.r ?_ | refine loopK.x ?_)
        | (fail)
        | fail
      all_goals first | (exfalso; omega) | skip
      refine loopK.nn 0 (by omega) (by repeat (first | refine Ag.upd rfl ?_ | exact Ag.hv | refine Ag.hv2 (fun i hi => by simp at hi ⊢; omega) ?_)) ⟨2, rfl, by omega, hi⟩
    obtain ⟨l1, _, _, _, l5⟩ := low_word hk0 hk64
    rw [memS_high hk0 hk64] at hi
    have hgo := hround _ _ _ hi
    iterate 13 first
      | (refine J.isJ ?_; first | (fail) | (first | (refine J.o 0 ?_; refine J.ev' hΓ ?_) | refine J.nil ?_ | (refine J.o 4 ?_; first | refine J.lR hΓ ?_) | (refine J.o 3 ?_; first | refine J.ev' hΓ ?_) | (refine J.o 1 ?_; first | refine J.ad ?_ | refine J.mu ?_) | (refine J.o 10 ?_; refine J.ev' hΓ ?_) | (refine J.o 11 ?_; refine J.ev' hΓ ?_)))
      | (first | refine JR.seq ?_ | refine JR.region (by kernel_rfl) ?_ | refine JR.block ?_ | refine JR.ret ?_ | refine JR.exit ?_ | refine JR.skip ?_ | refine thenR.nn ?_ | refine thenR.r ?_ | refine thenR.x ?_ | refine blockK.nn ?_ | refine blockK.r ?_ | refine blockK.hit rfl ?_ | refine JR.condT rfl ?_ | refine JR.condF rfl ?_ | (refine JR.cond rfl (fun hc => ?_) (fun hc => ?_) <;> ((try simp only [tcS] at hc) <;> first | (first | (exact absurd rfl hc) | (exfalso; omega) | (exact (tF hc (by assumption)).elim) | (exact (fT hc (by assumption)).elim)) | skip)) | refine loopK.r ?_ | refine loopK.x ?_)
      | (fail)
      | fail
    all_goals first | (exfalso; omega) | skip
    refine JR.regionL ?_
    refine JL.of (fun c h => by cases h) ?_
    (refine J.isJ ?_; refine J.o 0 ?_; refine J.ev' hΓ ?_)
    (refine J.nil ?_; refine nextL.nn ?_)
    refine JL.of (fun c h => by cases h) ?_
    (refine J.isJ ?_; refine J.o 0 ?_; refine J.ev' hΓ ?_)
    (refine J.nil ?_; refine nextL.nn ?_)
    refine JL.of (fun c h => by cases h) ?_
    (refine J.isJ ?_; refine J.o 1 ?_; refine J.mu ?_)
    (refine J.nil ?_; refine nextL.nn ?_)
    refine JL.of (fun c h => by cases h) ?_
    (refine J.isJ ?_; refine J.o 0 ?_; refine J.ev' hΓ ?_)
    (refine J.nil ?_; refine nextL.nn ?_)
    refine JL.of (fun c h => by cases h) ?_
    (refine J.isJ ?_; (refine J.fc 95 ?_; refine J.call0 eTz rfl rfl (fun w hw => tz_any k hk64 w (hT.below hw.below)) ?_))
    (refine J.nil ?_; refine nextL.nn ?_)
    refine JL.of (fun c h => by cases h) ?_
    (refine J.isJ ?_; refine J.o 1 ?_; refine J.ad ?_)
    (refine J.nil ?_; refine nextL.nn ?_)
    refine JL.of (fun c h => by cases h) ?_
    (refine J.isJ ?_; refine J.o 1 ?_; refine J.ad ?_)
    (refine J.nil ?_; refine nextL.nn ?_)
    refine JL.yield (vs := [.int .i64 (((Lib.ctz 64 k : Nat) : Int) + 65)]) (Φ := fun v' L' => ∃ q : Bool, v' = .bool q ∧ (q = true → I (memS (0, k &&& (k - 1))) L') ∧ (q = false → S L')) rfl rfl (by show some [Value.int .i64 (64 * 1 + ((Lib.ctz 64 k : Nat) : Int) + 1)] = _; congr 3; omega) hgo ?_
    rintro _ L2 ⟨q, rfl, hq1, hq2⟩
    cases q
    all_goals (
      refine JL.of (fun c h => by cases h) ?_
      (refine J.isJ ?_; first | (refine J.o 0 ?_; refine J.ev' hΓ ?_) | refine J.nil ?_ | refine J.kd ?_ | (refine J.o 4 ?_; first | refine J.lT default hΓ ?_ | refine J.lR hΓ ?_) | (refine J.o 3 ?_; first | refine J.iA hΓ ?_ | refine J.iJ hΓ ?_ | refine J.fP hΓ ?_ | refine J.iC hΓ ?_ | refine J.ev' hΓ ?_) | (refine J.o 1 ?_; first | refine J.ad ?_ | refine J.sb ?_ | refine J.ng ?_ | refine J.mu ?_) | (refine J.o 5 ?_; first | refine J.t0 hΓ ?_ | refine J.t1 hΓ ?_ | refine J.t2 hΓ ?_ | refine J.tT _ default hΓ (fun _ _ => ?_) | refine J.tT1 _ default hΓ (fun _ _ => ?_) | refine J.tT2 _ default hΓ (fun _ _ => ?_)) | (refine J.o 6 ?_; refine J.bx (fun _ => ?_)) | (refine J.o 7 ?_; refine J.al hΓ (fun _ => ?_)) | (refine J.o 8 ?_; refine J.bd hΓ ?_) | (refine J.o 9 ?_; refine J.bl hΓ (fun _ => ?_)) | (refine J.o 10 ?_; refine J.ev' hΓ ?_) | (refine J.o 11 ?_; refine J.ev' hΓ ?_) | (refine J.o 14 ?_; refine J.mf hΓ ?_) | refine J.kn ?_)
      (refine J.nil ?_; refine nextL.nn ?_)
      refine JL.nil ?_)
    ·
      repeat' first
        | (refine J.isJ ?_; first | (fail) | (first | (refine J.o 0 ?_; refine J.ev' hΓ ?_) | refine J.nil ?_ | (refine J.o 4 ?_; first | refine J.lR hΓ ?_) | (refine J.o 3 ?_; first | refine J.ev' hΓ ?_) | (refine J.o 1 ?_; first | refine J.ad ?_ | refine J.mu ?_) | (refine J.o 10 ?_; refine J.ev' hΓ ?_) | (refine J.o 11 ?_; refine J.ev' hΓ ?_)))
        | (first | refine JR.seq ?_ | refine JR.region (by kernel_rfl) ?_ | refine JR.block ?_ | refine JR.ret ?_ | refine JR.exit ?_ | refine JR.skip ?_ | refine thenR.nn ?_ | refine thenR.r ?_ | refine thenR.x ?_ | refine blockK.nn ?_ | refine blockK.r ?_ | refine blockK.hit rfl ?_ | refine JR.condT rfl ?_ | refine JR.condF rfl ?_ | (refine JR.cond rfl (fun hc => ?_) (fun hc => ?_) <;> ((try simp only [tcS] at hc) <;> first | (first | (exact absurd rfl hc) | (exfalso; omega) | (exact (tF hc (by assumption)).elim) | (exact (fT hc (by assumption)).elim)) | skip)) | refine loopK.r ?_ | refine loopK.x ?_)
        | (fail)
        | fail
      all_goals first | (exfalso; omega) | skip
      refine ret0 rfl (fun w hw => ?_)
      exact ⟨_, _, rfl, hw, Or.inr (hq2 rfl)⟩
    ·
      repeat' first
        | (refine J.isJ ?_; first | ((refine J.o 1 ?_; first | refine J.gsub (k := .u64) (a := k) (b := 1) ?_ | refine J.gand (k := .u64) (a := k) (b := k - 1) ?_)) | (first | (refine J.o 0 ?_; refine J.ev' hΓ ?_) | refine J.nil ?_ | (refine J.o 4 ?_; first | refine J.lR hΓ ?_) | (refine J.o 3 ?_; first | refine J.ev' hΓ ?_) | (refine J.o 1 ?_; first | refine J.ad ?_ | refine J.mu ?_) | (refine J.o 10 ?_; refine J.ev' hΓ ?_) | (refine J.o 11 ?_; refine J.ev' hΓ ?_)))
        | (first | refine JR.seq ?_ | refine JR.region (by kernel_rfl) ?_ | refine JR.block ?_ | refine JR.ret ?_ | refine JR.exit ?_ | refine JR.skip ?_ | refine thenR.nn ?_ | refine thenR.r ?_ | refine thenR.x ?_ | refine blockK.nn ?_ | refine blockK.r ?_ | refine blockK.hit rfl ?_ | refine JR.condT rfl ?_ | refine JR.condF rfl ?_ | (refine JR.cond rfl (fun hc => ?_) (fun hc => ?_) <;> ((try simp only [tcS] at hc) <;> first | (first | (exact absurd rfl hc) | (exfalso; omega) | (exact (tF hc (by assumption)).elim) | (exact (fT hc (by assumption)).elim)) | skip)) | refine loopK.r ?_ | refine loopK.x ?_)
        | (fail)
        | fail
      all_goals first | (exfalso; omega) | skip
      refine loopK.nn (k &&& (k - 1)) l5 (by repeat (first | refine Ag.upd rfl ?_ | exact Ag.hv)) ⟨rfl, by omega, hq1 rfl⟩
  · have e6 : g 6 = .int .i64 2 := e6
    refine JR.pin 6 e6 ?_
    clear e6
    rw [if_neg (by omega), if_neg (by omega), memS_zero] at hi
    repeat' first
      | (refine J.isJ ?_; first | (fail) | (first | (refine J.o 0 ?_; refine J.ev' hΓ ?_) | refine J.nil ?_ | (refine J.o 4 ?_; first | refine J.lR hΓ ?_) | (refine J.o 3 ?_; first | refine J.ev' hΓ ?_) | (refine J.o 1 ?_; first | refine J.ad ?_ | refine J.mu ?_) | (refine J.o 10 ?_; refine J.ev' hΓ ?_) | (refine J.o 11 ?_; refine J.ev' hΓ ?_)))
      | (first | refine JR.seq ?_ | refine JR.region (by kernel_rfl) ?_ | refine JR.block ?_ | refine JR.ret ?_ | refine JR.exit ?_ | refine JR.skip ?_ | refine thenR.nn ?_ | refine thenR.r ?_ | refine thenR.x ?_ | refine blockK.nn ?_ | refine blockK.r ?_ | refine blockK.hit rfl ?_ | refine JR.condT rfl ?_ | refine JR.condF rfl ?_ | (refine JR.cond rfl (fun hc => ?_) (fun hc => ?_) <;> ((try simp only [tcS] at hc) <;> first | (first | (exact absurd rfl hc) | (exfalso; omega) | (exact (tF hc (by assumption)).elim) | (exact (fT hc (by assumption)).elim)) | skip)) | refine loopK.r ?_ | refine loopK.x ?_)
      | (fail)
      | fail
    all_goals first | (exfalso; omega) | skip
    exact ret0n rfl (fun w hw => ⟨_, _, rfl, hw, .inl hi⟩)
  · omega
end Go.Proofs.YtdiciemlbhkilaaGreatDoor
namespace Go.Cx
open Go Go.RowKit Go.Maps
set_option linter.unusedVariables false
set_option linter.unusedSimpArgs false
section
variable {P : Program} {n : Nat} {w0 : World} {R : Heap} {l0 : List Oper} {K : Exit → Fr → List Heap → Prop} {f : Fr} {L : List Heap} {rest : List (Nat × Oper)} {κ : Nat}
variable {Γ : List (Nat × TI)} {d : Nat} {ty : TypeId} {pos : String} {aft : Array Edge} {g : Option (Nat × Bool)}
theorem J.mfV {fn : Fn} {cs : List Operand} (vs : List Value) (hΓ : Fits P Γ) (k : J P n w0 R l0 K rest (upd f d (.func fn ⟨[]⟩ ⟨vs⟩)) L) (hg : wantB n f l0 ⟨some d, .makeFunc fn ⟨[]⟩ ⟨cs⟩, ty, pos, aft, g⟩ = true := by exact rfl) (hv : cs.map (Cx.ev n f) = vs := by exact rfl) : J P n w0 R l0 K ((κ, ⟨some d, .makeFunc fn ⟨[]⟩ ⟨cs⟩, ty, pos, aft, g⟩) :: rest) f L := by
  subst hv
  exact J.mf hΓ k hg
end
section
variable {P : Program} {n : Nat} {w0 : World} {R : Heap} {K : Exit → Fr → List Heap → Prop} {f : Fr} {L L' : List Heap}
theorem JC.weak {c : Code} (e : ∀ w, H w0 R L w → H w0 R L' w) (k : JC P n w0 R c K f L') : JC P n w0 R c K f L := fun a w ha hw => k a w ha (e w hw)
theorem JC.loopG {c : Code} (ws : Nat → Bool) (I : Nat → Fr → List Heap → Prop) (m0 : Nat) (h0 : I m0 f L)
    (round : ∀ m g L', I m g L' → JC P n w0 R c (loopK ws f (fun m g L => ∃ L2, I m g L2 ∧ ∀ w, H w0 R L w → H w0 R L2 w) m K) (havoc ws f g) L') : JC P n w0 R (.loop c) K f L :=
  JC.loop ws (fun m g L => ∃ L2, I m g L2 ∧ ∀ w, H w0 R L w → H w0 R L2 w) m0 ⟨L, h0, fun _ h => h⟩ (fun m g L' ⟨L2, hI, hL⟩ => JC.weak hL (round m g L2 hI))
end
end Go.Cx
namespace Go.Cx
open Go Go.RowKit
set_option linter.unusedVariables false
def selF (l : List Heap) : List Nat → List Heap
  | [] => []
  | i :: f => l.getD i [] :: selF l f
theorem selF_mem (l : List Heap) (x : Heap) : ∀ f : List Nat, x ∈ selF l f → ∃ i, i ∈ f ∧ x = l.getD i []
  | [], h => by cases h
  | i :: f, h => by
    rcases List.mem_cons.1 h with rfl | h
    · exact ⟨i, List.mem_cons_self, rfl⟩
    · obtain ⟨j, hj, e⟩ := selF_mem l x f h
      exact ⟨j, List.mem_cons_of_mem _ hj, e⟩
def apart (a b : Heap) : Prop := ∀ x, x ∈ a.map (·.1) → ∀ y, y ∈ b.map (·.1) → x ≠ y
theorem apart.symm {a b : Heap} (h : apart a b) : apart b a := fun x hx y hy e => h y hy x hx e.symm
theorem nodup_frags (L : List Heap) : (L.flatten.map (·.1)).Nodup ↔ (∀ a, a ∈ L → (a.map (·.1)).Nodup) ∧ L.Pairwise apart := by
  rw [List.map_flatten]
  unfold List.Nodup
  rw [List.pairwise_flatten]
  constructor
  · rintro ⟨h1, h2⟩
    have h3 := List.pairwise_map.1 h2
    exact ⟨fun a ha => h1 _ (List.mem_map_of_mem ha), h3⟩
  · rintro ⟨h1, h2⟩
    have h3 : (L.map (List.map (·.1))).Pairwise (fun l₁ l₂ => ∀ (x : Nat), x ∈ l₁ → ∀ (y : Nat), y ∈ l₂ → x ≠ y) := List.pairwise_map.2 h2
    refine ⟨fun a ha => ?_, h3⟩
    obtain ⟨b, hb, rfl⟩ := List.mem_map.1 ha
    exact h1 b hb
theorem getD_in (l : List Heap) (i : Nat) (hi : i < l.length) : l.getD i [] ∈ l := by
  rw [List.getD_eq_getElem?_getD, List.getElem?_eq_getElem hi]
  exact List.getElem_mem hi
theorem selF_apart (l : List Heap) (hp : l.Pairwise apart) : ∀ f : List Nat, f.Nodup → (∀ i, i ∈ f → i < l.length) → (selF l f).Pairwise apart
  | [], _, _ => List.Pairwise.nil
  | i :: f, hn, hb => by
    rw [List.nodup_cons] at hn
    refine List.pairwise_cons.2 ⟨fun x hx => ?_, selF_apart l hp f hn.2 fun j hj => hb j (List.mem_cons_of_mem _ hj)⟩
    obtain ⟨j, hj, rfl⟩ := selF_mem l x f hx
    have hi := hb i List.mem_cons_self
    have hj2 := hb j (List.mem_cons_of_mem _ hj)
    have hne : i ≠ j := fun e => hn.1 (e ▸ hj)
    rw [List.getD_eq_getElem?_getD, List.getElem?_eq_getElem hi, List.getD_eq_getElem?_getD, List.getElem?_eq_getElem hj2]
    rcases Nat.lt_or_gt_of_ne hne with h | h
    · exact List.pairwise_iff_getElem.1 hp i j hi hj2 h
    · exact (List.pairwise_iff_getElem.1 hp j i hj2 hi h).symm
theorem H.sel {w0 w : World} {R : Heap} {l M : List Heap} (h : H w0 R (l ++ M) w) (f : List Nat) (hn : f.Nodup := by decide) (hb : (f.all fun i => decide (i < l.length)) = true := by rfl) : H w0 R (selF l f ++ M) w := by
  have hb' : ∀ i, i ∈ f → i < l.length := fun i hi => by simpa using List.all_eq_true.1 hb i hi
  have hs : ∀ a, a ∈ selF l f ++ M → a ∈ l ++ M := fun a ha => by
    rcases List.mem_append.1 ha with ha | ha
    · obtain ⟨i, hi, rfl⟩ := selF_mem l a f ha
      exact List.mem_append_left _ (getD_in l i (hb' i hi))
    · exact List.mem_append_right _ ha
  have hx : ∀ x, x ∈ (selF l f ++ M).flatten → x ∈ (l ++ M).flatten := fun x hx => by
    obtain ⟨a, ha, hxa⟩ := List.mem_flatten.1 hx
    exact List.mem_flatten.2 ⟨a, hs a ha, hxa⟩
  refine ⟨h.below, h.old, fun x hx' => h.own x (hx x hx'), fun x hx' => h.new x (hx x hx'), ?_⟩
  obtain ⟨h1, h2⟩ := (nodup_frags _).1 h.nodup
  refine (nodup_frags _).2 ⟨fun a ha => h1 a (hs a ha), ?_⟩
  rw [List.pairwise_append] at h2 ⊢
  refine ⟨selF_apart l h2.1 f hn hb', h2.2.1, fun a ha b hb => ?_⟩
  obtain ⟨i, hi, rfl⟩ := selF_mem l a f ha
  exact h2.2.2 _ (getD_in l i (hb' i hi)) b hb
section
variable {P : Program} {n : Nat} {w0 : World} {R : Heap} {L0 : List Heap} {l0 : List Oper} {K : Exit → Fr → List Heap → Prop} {f : Fr} {L : List Heap}
def midK (ws : Nat → Bool) (f0 : Fr) (Q : Fr → List Heap → Prop) : Exit → Fr → List Heap → Prop
  | .normal, f, L => Ag ws f0 f ∧ Q f L
  | _, _, _ => False
theorem midK.nn {ws : Nat → Bool} {f0 : Fr} {Q : Fr → List Heap → Prop} (ha : Ag ws f0 f) (h : Q f L) : midK ws f0 Q .normal f L := ⟨ha, h⟩
theorem JC.mid {c : Code} (ws : Nat → Bool) (Q : Fr → List Heap → Prop) (h1 : JC P n w0 R c (midK ws f Q) f L) (h2 : ∀ g L', Q g L' → K .normal (havoc ws f g) L') : JC P n w0 R c K f L :=
  JC.mono h1 fun e F L' h => by
    cases e with
    | normal =>
      have := h2 F L' h.2
      rw [h.1.eq] at this
      exact this
    | _ => exact h.elim
end
section
variable {P : Program} {n : Nat} {w0 : World} {R : Heap} {l0 : List Oper} {K : Exit → Fr → List Heap → Prop} {f : Fr} {L : List Heap} {rest : List (Nat × Oper)}
variable {Γ : List (Nat × TI)} {d : Nat} {ty : TypeId} {pos : String} {aft : Array Edge} {g : Option (Nat × Bool)}
variable {α : Type} {enc : α → List Value} {size : Nat} {e : TypeId} {a : Option Addr} {cap : Nat} {ts us : List α} {h : Heap}
theorem app_empty {w : World} (hΓ : Fits P Γ) {t ty' : TypeId} {s1 b1 b2 : Nat} {z1 : Option Value} {z : Value} {de : TypeDesc} {len c : Nat} {b : Option Addr} (ht : look Γ t = some ⟨.slice e, s1, z1, b1⟩) (he : look Γ e = some ⟨de, size, some z, b2⟩) (hc : len ≤ cap) :
    (Builtin.append_ #[t, t] ty' #[.slice a len cap, .slice b 0 c]).run P w = .ok (.slice a len cap) w := by
  have hu := (hΓ t _ ht).1
  have hsz := sizeOf_run hΓ he w
  unfold Builtin.append_
  cases a <;> cases b <;> simp [Sem.run_bind, run_underlying hu, hsz, Builtin.lenOf, Builtin.firstCells, loadCells, loadCellsFrom, storeCells, hc, Result.andThen, go_sem]
theorem J.apA {t : TypeId} {x y : Operand} {len m c : Nat} {b : Option Addr} {hs : Heap} {s1 b1 b2 : Nat} {z1 : Option Value} {z : Value} {zc : List Value} {de : TypeDesc} (hΓ : Fits P Γ) (ho : OwT enc size e a cap ts h) (hus : SlT enc size b us hs) (hr : RdH R (h :: L) hs)
    (k : ∀ a' cap' h', OwT enc size e a' cap' (ts ++ us) h' → J P n w0 R l0 K rest (upd f d (.slice a' (ts ++ us).length cap')) (h' :: L))
    (hg : wantB n f l0 ⟨some d, .call ⟨.builtin .append, ⟨[x, y]⟩, ⟨[t, t]⟩⟩, ty, pos, aft, g⟩ = true := by exact rfl)
    (hx : Cx.ev n f x = .slice a len cap := by exact rfl) (hy : Cx.ev n f y = .slice b m c := by exact rfl) (ht : look Γ t = some ⟨.slice e, s1, z1, b1⟩ := by exact rfl) (he : look Γ e = some ⟨de, size, some z, b2⟩ := by exact rfl) (hz : vcells z = some zc := by exact rfl) (hzl : Nat.beq zc.length size = true := by exact rfl)
    (hlen : ts.length = len := by first | rfl | assumption | omega) (hm : us.length = m := by first | rfl | assumption | omega) (h1 : ∀ t, ones (enc t) = true := by intro _; rfl) (hb : (len + m) * b2 ≤ 140737488355328 := by omega) (h63 : len + m ≤ 9223372036854775807 := by omega) :
    J P n w0 R l0 K ((2, ⟨some d, .call ⟨.builtin .append, ⟨[x, y]⟩, ⟨[t, t]⟩⟩, ty, pos, aft, g⟩) :: rest) f (h :: L) := by
  have hll : (ts ++ us).length = len + m := by rw [List.length_append, hlen, hm]
  rcases Nat.eq_zero_or_pos us.length with h0 | hpos
  · have hun : us = [] := List.eq_nil_of_length_eq_zero h0
    subst hun
    subst hm
    subst hlen
    have hcap : ts.length ≤ cap := by
      rcases ho.row with ⟨_, rfl, rfl, _⟩ | ⟨_, _, _, _, _, hc, _⟩
      · exact Nat.le_refl _
      · exact hc
    have k' := k a cap h (by rw [List.append_nil]; exact ho)
    rw [List.append_nil] at k'
    refine J.v (Φ := fun v L' => v = .slice a ts.length cap ∧ L' = h :: L) hg (fun w hw => ⟨_, _, w, ?_, hw, rfl, rfl⟩) (fun v L' ⟨e1, e2⟩ => by subst e1; subst e2; exact k')
    have h2 : (⟨[x, y]⟩ : Array Operand).map (Cx.ev n f) = #[.slice a ts.length cap, .slice b 0 c] := by simp [hx, hy]
    simp only [execOp, resolve, h2, Sem.run_bind, Sem.run_pure, Result.andThen_ok, invoke, builtin]
    rw [app_empty hΓ ht he hcap]
    rfl
  · refine J.appS hΓ hg hx hy ht he hz hzl ho hlen hus hm hr h1 (by omega) hb h63 (fun a' cap' h' o' => ?_)
    have := k a' cap' h' o'
    rw [hll] at this
    exact this
end
end Go.Cx
namespace Go.Proofs.YtdiciemlbhkilaaGreatDoor
open Go Go.Cx Go.RowKit
set_option linter.unusedVariables false
set_option linter.unusedSimpArgs false
set_option maxHeartbeats 4000000
attribute [local irreducible] J JC thenK blockK loopK roundK drawK retK QW Qt pel List.set Calls
def encBo (b : Bool) : List Value := [.bool b]
end Go.Proofs.YtdiciemlbhkilaaGreatDoor
namespace Go.Proofs.YtdiciemlbhkilaaGreatDoor
open Go Go.Cx Go.RowKit
set_option linter.unusedVariables false
set_option linter.unusedSimpArgs false
set_option maxHeartbeats 4000000
attribute [local irreducible] J JC thenK blockK loopK roundK drawK retK QW Qt pel List.set Calls
structure Gt where
  kind : Int
  lit : Int
  a : Option Addr
  cap : Nat
  ins : List Int
instance : Inhabited Gt := ⟨⟨0, 0, none, 0, []⟩⟩
def encG (g : Gt) : List Value := [.int .i64 g.kind, .int .i64 g.lit, .slice g.a g.ins.length g.cap]
structure OkG (n : Int) (i : Nat) (g : Gt) : Prop where
  al : (g.kind = 0 ∨ g.kind = 1 ∨ g.kind = 2) ∧ g.ins.length = 0 ∨ g.kind = 8 ∧ g.ins.length = 3 ∨ g.kind = 4 ∧ g.ins.length = 1
  lit : g.kind = 2 ∧ 1 ≤ g.lit ∧ g.lit ≤ n ∨ g.kind ≠ 2 ∧ g.lit = 0
  ins : ∀ j, j < g.ins.length → 0 ≤ g.ins.getD j default ∧ g.ins.getD j default < i
structure Cir (n : Int) (a : Option Addr) (gs : List Gt) (h : Heap) : Prop where
  n0 : 0 ≤ n
  n1 : n ≤ 128
  len0 : 0 < gs.length
  len1 : gs.length ≤ 4096
  sl : SlT encG 3 a gs h
  ins : ∀ i, i < gs.length → SlT encI 1 (gs.getD i default).a (gs.getD i default).ins h
  ok : ∀ i, i < gs.length → OkG n i (gs.getD i default)
def cv (n : Int) (a : Option Addr) (len cap : Nat) : Value := .agg ⟨[.int .i64 n, .slice a len cap]⟩
def sizeP (gs : List Gt) : Nat := (gs.map fun g => g.ins.length).sum
theorem size_take (gs : List Gt) (k : Nat) (hk : k < gs.length) : sizeP (gs.take (k + 1)) = sizeP (gs.take k) + (gs.getD k default).ins.length := by
  rw [← take_one gs k hk]; unfold sizeP; simp
theorem size_le (gs : List Gt) (hg : ∀ i, i < gs.length → (gs.getD i default).ins.length ≤ 3) : ∀ k, k ≤ gs.length → sizeP (gs.take k) ≤ 3 * k
  | 0, _ => by simp [sizeP]
  | k + 1, h => by rw [size_take gs k (by omega)]; have := size_le gs hg k (by omega); have := hg k (by omega); omega
theorem Cir.small {n : Int} {a : Option Addr} {gs : List Gt} {h : Heap} (c : Cir n a gs h) (i : Nat) (hi : i < gs.length) : (gs.getD i default).ins.length ≤ 3 := by
  have := (c.ok i hi).al; omega
end Go.Proofs.YtdiciemlbhkilaaGreatDoor
namespace Go.Proofs.YtdiciemlbhkilaaGreatDoor
open Go Go.Cx Go.RowKit
set_option linter.unusedVariables false
set_option linter.unusedSimpArgs false
set_option maxHeartbeats 4000000
attribute [local irreducible] J JC thenK blockK loopK roundK drawK retK QW Qt pel List.set Calls
theorem slm {α : Type} {enc : α → List Value} {size : Nat} {a : Option Addr} {ts : List α} {h h' : Heap} (hs : SlT enc size a ts h) (hh : ∀ x, x ∈ h → x ∈ h') : SlT enc size a ts h' :=
  ⟨hs.len, fun i hi => by
    obtain ⟨b, off, cs, e, fr, h1, h2, h3⟩ := hs.at_ i hi
    exact ⟨b, off, cs, e, fr, h1, hh _ h2, h3⟩⟩
def valueP (s : Nat × Nat) (v : List Bool) (g : Gt) : Bool :=
  if g.kind = 1 then true else if g.kind = 2 then hasB s g.lit else if g.kind = 4 then g.ins.all (fun j => v.getD j.toNat default)
  else if g.kind = 8 then (if v.getD (g.ins.getD 0 default).toNat default then v.getD (g.ins.getD 1 default).toNat default else v.getD (g.ins.getD 2 default).toNat default) else false
end Go.Proofs.YtdiciemlbhkilaaGreatDoor
namespace Go.Proofs.YtdiciemlbhkilaaGreatDoor
open Go Go.Cx Go.RowKit
set_option linter.unusedVariables false
set_option linter.unusedSimpArgs false
set_option maxHeartbeats 4000000
attribute [local irreducible] J JC thenK blockK loopK roundK drawK retK QW Qt pel List.set Calls
def vals (s : Nat × Nat) (gs : List Gt) : List Bool := gs.foldl (fun v g => v ++ [valueP s v g]) []
theorem vals_snoc (s : Nat × Nat) (gs : List Gt) (g : Gt) : vals s (gs ++ [g]) = vals s gs ++ [valueP s (vals s gs) g] := by
  unfold vals; rw [List.foldl_append]; rfl
theorem vals_take (s : Nat × Nat) (gs : List Gt) (k : Nat) (hk : k < gs.length) : vals s (gs.take (k + 1)) = vals s (gs.take k) ++ [valueP s (vals s (gs.take k)) (gs.getD k default)] := by
  rw [← take_one gs k hk, vals_snoc]
theorem vals_len (s : Nat × Nat) (gs : List Gt) : ∀ k, k ≤ gs.length → (vals s (gs.take k)).length = k
  | 0, _ => rfl
  | k + 1, h => by rw [vals_take s gs k (by omega), List.length_append, vals_len s gs k (by omega)]; rfl
theorem vals_nil (s : Nat × Nat) (gs : List Gt) : vals s (gs.take 0) = [] := rfl
attribute [local irreducible] vals
end Go.Proofs.YtdiciemlbhkilaaGreatDoor
