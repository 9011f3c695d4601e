/-
  A region that draws its order, walked in an order that is not the text's; and ahead of a call that writes, with the memory left open.
-/
import Derived.Test.YthnhijdfcmcnhaaCxV
namespace Go.Cx
open Go Go.RowKit
set_option linter.unusedVariables false
set_option linter.unusedSimpArgs false
section
variable {P : Program} {ops : Array Oper} {md : Region.Mode} {Q : Exit → Act → World → Prop}
/-- operations with their kinds, in an order: 'ps' holds the kinds and the numbers -/
def Along (ops : Array Oper) : List (Nat × Nat) → List (Nat × Oper) → Prop
  | [], [] => True
  | (c, k) :: ps, (d, o) :: l => ops[k]? = some o ∧ c = d ∧ Along ops ps l
  | _, _ => False
def lexP (md : Region.Mode) (ops : Array Oper) (loud gro : Nat → Bool) : List (Nat × Nat) → Array Bool → Bool
  | [], listed => (Region.ready md ops listed).isEmpty
  | (0, k) :: ks, listed => !loud k && (Region.ready md ops listed).contains k && Region.free md ops listed k && lexP md ops loud gro ks (listed.setIfInBounds k true)
  | (1, k) :: ks, listed => !loud k && (Region.ready md ops listed).contains k && Region.free md ops listed k && ((List.range ops.size).all fun j => !loud j || listed.getD j true || (gro j && (match ops[k]? with | some o => isLd o.op | none => false)) || waitsB md ops k ops.size j) && lexP md ops loud gro ks (listed.setIfInBounds k true)
  | (c + 2, k) :: ks, listed => loud k && (gro k == !(Nat.beq c 0)) && decide (Region.ready md ops listed = [k]) && lexP md ops loud gro ks (listed.setIfInBounds k true)
def loudP (ps : List (Nat × Nat)) (j : Nat) : Bool := ps.any fun p => Nat.beq p.2 j && Nat.ble 2 p.1
def groP (ps : List (Nat × Nat)) (j : Nat) : Bool := ps.any fun p => Nat.beq p.2 j && Nat.ble 3 p.1
def drawP (ps : List (Nat × Nat)) (ops : Array Oper) : Bool := Region.noSelect ops && Nat.beq ps.length ops.size && ps.all (fun p => Nat.blt p.2 ops.size) && lexP .any ops (loudP ps) (groP ps) ps (Array.replicate ops.size false)
def picks (l0 : List Oper) : List (Nat × Nat) → List (Nat × Oper)
  | [] => []
  | (c, k) :: ps => match l0[k]? with | some o => (c, o) :: picks l0 ps | none => picks l0 ps
theorem picks_along (l0 : List Oper) : ∀ (ps : List (Nat × Nat)), (ps.all (fun p => Nat.blt p.2 l0.length)) = true → Along l0.toArray ps (picks l0 ps) ∧ (picks l0 ps).length = ps.length
  | [], _ => ⟨trivial, rfl⟩
  | (c, k) :: ps, h => by
    rw [List.all_cons, Bool.and_eq_true] at h
    have hk : k < l0.length := Nat.le_of_ble_eq_true h.1
    have ih := picks_along l0 ps h.2
    have e : l0[k]? = some l0[k] := List.getElem?_eq_getElem hk
    simp only [picks, e, Along, List.length_cons]
    exact ⟨⟨by simp [hk], trivial, ih.1⟩, by rw [ih.2]⟩

theorem LX.gp {loud gro : Nat → Bool} (hs : Region.noSelect ops = true) (hQ : ∀ c a w, ¬ Q (.panic c) a w) : ∀ (ps : List (Nat × Nat)) (l : List (Nat × Oper)) (listed : Array Bool) (a : Act) (C : World → Prop), Along ops ps l → (∀ j, ops.size ≤ j → loud j = false) →
    Closed md ops listed → lexP md ops loud gro ps listed = true → LX P ops Q l a C → GX P md ops Q loud gro C l.length listed a
  | [], [], listed, a, C, _, _, inv, hB, h => ⟨by simpa [lexP] using hB, h⟩
  | [], _ :: _, _, _, _, hlen, _, _, _, _ => hlen.elim
  | _ :: _, [], _, _, _, hlen, _, _, _, _ => hlen.elim
  | (0, k) :: ks, (0, o) :: l, listed, a, C, ⟨h0, _, hl⟩, hlo, inv, hB, h => by
    simp only [lexP, Bool.and_eq_true, Bool.not_eq_true'] at hB
    obtain ⟨⟨⟨hlk, hr⟩, hf⟩, hB'⟩ := hB
    have hr' : k ∈ Region.ready md ops listed := by simpa using hr
    obtain ⟨v, hy, hk⟩ : ∃ v, Yields P ops o v a ∧ LX P ops Q l (a.put o.dst v) C := h
    have hyi : YieldsIn P ops C o v a := by
      rcases hy with ⟨h1, h2⟩ | h1
      · exact .inl ⟨h1, fun w _ => by unfold Oper.quietAt; rw [h2 w]; exact ⟨rfl, rfl⟩⟩
      · exact .inr h1
    exact GX.first h0 (Region.noSelect_spec hs) hQ hlk l.length C listed a inv (Region.free_spec h0 hf) hr' hyi (.inl hy)
      (LX.gp hs hQ ks l _ _ C hl hlo (inv.set hr') hB' hk)
  | (1, k) :: ks, (1, o) :: l, listed, a, C, ⟨h0, _, hl⟩, hlo, inv, hB, h => by
    simp only [lexP, Bool.and_eq_true, Bool.not_eq_true'] at hB
    obtain ⟨⟨⟨⟨hlk, hr⟩, hf⟩, hw⟩, hB'⟩ := hB
    have hr' : k ∈ Region.ready md ops listed := by simpa using hr
    obtain ⟨v, hy, hk⟩ : ∃ v, YieldsIn P ops C o v a ∧ LX P ops Q l (a.put o.dst v) C := h
    have hall : ∀ j, loud j = true → listed.getD j true = false → (gro j = true ∧ isLd o.op = true) ∨ waitsB md ops k ops.size j = true := fun j hj hun => by
      have hjs : j < ops.size := by
        rcases Nat.lt_or_ge j ops.size with h' | h'
        · exact h'
        · rw [hlo j h'] at hj; cases hj
      have := List.all_eq_true.1 hw j (List.mem_range.2 hjs)
      simp only [Bool.or_eq_true, Bool.not_eq_true', hj, hun, h0, Bool.and_eq_true] at this
      rcases this with ((h' | h') | h') | h'
      · cases h'
      · cases h'
      · exact .inl h'
      · exact .inr h'
    refine GX.first h0 (Region.noSelect_spec hs) hQ hlk l.length C listed a inv (Region.free_spec h0 hf) hr' hy ?_
      (LX.gp hs hQ ks l _ _ C hl hlo (inv.set hr') hB' hk)
    cases hld : isLd o.op with
    | true =>
      refine .inr (.inr ⟨yieldsIn_ld hld hy, fun j hj hun => ?_⟩)
      rcases hall j hj hun with h | h
      · exact .inl h.1
      · exact .inr ⟨ops.size, h⟩
    | false =>
      refine .inr (.inl fun j hj hun => ⟨ops.size, ?_⟩)
      rcases hall j hj hun with h | h
      · rw [hld] at h; cases h.2
      · exact h
  | (c' + 2, k) :: ks, (c + 2, o) :: l, listed, a, C, ⟨h0, hcc, hl⟩, hlo, inv, hB, h => by
    obtain rfl : c = c' := by have := hcc; omega
    simp only [lexP, Bool.and_eq_true, decide_eq_true_eq] at hB
    obtain ⟨⟨⟨hlk, hgk⟩, hr⟩, hB'⟩ := hB
    have hr' : k ∈ Region.ready md ops listed := by rw [hr]; simp
    have h' : ∀ w, C w → lop P ops Q o (fun a' w' => ∃ C' : World → Prop, (c ≠ 0 → ∀ w, C' w → C w) ∧ C' w' ∧ LX P ops Q l a' C') a w := h
    have hc : gro k = true → c ≠ 0 := fun hg hc => by
      rw [hg, hc] at hgk
      cases hgk
    refine ⟨fun he => (by rw [hr] at he; cases he), fun j hj => ?_⟩
    rw [hr] at hj
    have hjk : j = k := by simpa using hj
    subst hjk
    refine .inl ⟨hlk, fun w hC => ?_⟩
    have hlop := h' w hC
    have hwp : wpOp P ops Q j (fun a' w' => ∃ C' : World → Prop, (c ≠ 0 → ∀ w, C' w → C w) ∧ C' w' ∧ LX P ops Q l a' C') a w := by
      unfold wpOp
      simp only [h0]
      unfold lop at hlop
      split
      · rename_i hg; rw [if_pos hg] at hlop; exact .inl hlop
      · rename_i hg; rw [if_neg hg] at hlop; exact hlop
    refine wpOp_mono (fun a' w' ⟨C', hsub, hC', hk⟩ => ⟨C', fun hg => hsub (hc hg), hC', ?_⟩) hwp
    exact LX.gp hs hQ ks l _ _ C' hl hlo (inv.set hr') hB' hk
  | (0, _) :: _, (_ + 1, _) :: _, _, _, _, ⟨_, hc, _⟩, _, _, _, _ => by cases hc
  | (1, _) :: _, (0, _) :: _, _, _, _, ⟨_, hc, _⟩, _, _, _, _ => by cases hc
  | (1, _) :: _, (_ + 2, _) :: _, _, _, _, ⟨_, hc, _⟩, _, _, _, _ => by simp at hc
  | (_ + 2, _) :: _, (0, _) :: _, _, _, _, ⟨_, hc, _⟩, _, _, _, _ => by simp at hc
  | (_ + 2, _) :: _, (1, _) :: _, _, _, _, ⟨_, hc, _⟩, _, _, _, _ => by simp at hc
end
section
variable {P : Program} {n : Nat} {w0 : World} {R : Heap} {K : Exit → Fr → List Heap → Prop} {f : Fr} {L : List Heap} {l0 : List Oper} {rest : List (Nat × Oper)} {o : Oper}
/-- the memory left open: one of a family -/
def JX (P : Program) (n : Nat) (w0 : World) (R : Heap) (l0 : List Oper) (K : Exit → Fr → List Heap → Prop) (l : List (Nat × Oper)) (f : Fr) (Fam : List Heap → Prop) : Prop :=
  ∀ a, Rep n f a → LX P l0.toArray (QW n w0 R K) l a (fun w => ∃ L, Fam L ∧ H w0 R L w)
theorem JC.drawX {id : Nat} {l : List Oper} {Fam : List Heap → Prop} (ps : List (Nat × Nat)) (hm : P.follows .mixedOrders = true) (hB : drawP ps l.toArray = true) (hL : Fam L)
    (h : JX P n w0 R l (drawK K) (picks l ps) f Fam) : JC P n w0 R (.region id l.toArray true) K f L := fun a w ha hw => by
  simp only [drawP, Bool.and_eq_true] at hB
  obtain ⟨⟨⟨hs, hlen⟩, hall⟩, hlex⟩ := hB
  have hlen' := Nat.eq_of_beq_eq_true hlen
  have hall' : (ps.all (fun p => Nat.blt p.2 l.length)) = true := by simpa using hall
  obtain ⟨hal, hpl⟩ := picks_along l ps hall'
  refine wp_mono (Q := QW n w0 R (drawK K)) (wp_region_any hm ?_) (fun e a w q => q.mono fun e f L hk => by cases e <;> first | exact hk | exact hk.elim)
  have hl := h a ha
  have inv0 : Closed .any l.toArray (Array.replicate l.toArray.size false) := ⟨by simp, fun j oj _ hl => (by rw [show (Array.replicate l.toArray.size false).getD j false = false from by rcases Nat.lt_or_ge j l.toArray.size with h | h <;> simp_all] at hl; cases hl)⟩
  have := (LX.gp (md := .any) hs (fun c a w q => by obtain ⟨_, _, _, _, hk⟩ := q; exact hk) ps (picks l ps) _ a _ hal (fun j hj => by
    unfold loudP
    rw [List.any_eq_false]
    intro p hp hb
    rw [Bool.and_eq_true] at hb
    have h1 := Nat.eq_of_beq_eq_true hb.1
    have h2 := List.all_eq_true.1 hall p hp
    have h3 : p.2 < l.toArray.size := Nat.le_of_ble_eq_true h2
    omega) inv0 hlex hl).any _ ⟨L, hL, hw.drew (w.drawn + 1)⟩
  rw [hpl, hlen'] at this
  simpa using this
theorem JX.of {l : List (Nat × Oper)} (h : J P n w0 R l0 K l f L) : JX P n w0 R l0 K l f (fun L' => L' = L) := fun a ha => by
  have e : (fun w => ∃ L', L' = L ∧ H w0 R L' w) = H w0 R L := funext fun w => propext ⟨fun ⟨_, e, h⟩ => e ▸ h, fun h => ⟨L, rfl, h⟩⟩
  rw [e]
  exact h a ha
/-- in an order of our own, the memory known -/
theorem JC.drawO {id : Nat} {l : List Oper} (ps : List (Nat × Nat)) (hm : P.follows .mixedOrders = true) (hB : drawP ps l.toArray = true)
    (h : J P n w0 R l (drawK K) (picks l ps) f L) : JC P n w0 R (.region id l.toArray true) K f L := JC.drawX (Fam := fun L' => L' = L) ps hm hB rfl (JX.of h)
variable {Γ : List (Nat × TI)} {d : Nat} {op : Op} {ty : TypeId} {pos : String} {aft : Array Edge} {g : Option (Nat × Bool)} {Fam : List Heap → Prop}
theorem JX.p {v : Value} (hg : wantB n f l0 o = true) (hv : ∀ w, (execOp (ev n f) o).run P w = .ok (.value v) w) (k : JX P n w0 R l0 K rest (updO f o.dst v) Fam) : JX P n w0 R l0 K ((0, o) :: rest) f Fam := fun a ha => by
  have hw : Region.wanted o (yielded l0.toArray a.tmps) = true := by rw [ha.wanted, hg]
  exact ⟨v, .inl ⟨hw, fun w => by rw [ha.eval]; exact hv w⟩, k _ (ha.put o.dst v)⟩
theorem JX.ev {v : Value} (hΓ : Fits P Γ) (k : JX P n w0 R l0 K rest (upd f d v) Fam) (hg : wantB n f l0 ⟨some d, op, ty, pos, aft, g⟩ = true := by exact rfl) (h : pureEv Γ (Cx.ev n f) op = some v := by exact rfl) : JX P n w0 R l0 K ((0, ⟨some d, op, ty, pos, aft, g⟩) :: rest) f Fam :=
  JX.p hg (fun w => pure_ok hΓ h w) k
theorem JX.bd {t : TypeId} {parts : List (Nat × Operand)} {ps : List (Nat × List Value)} {cl : List Value} (hΓ : Fits P Γ) (k : JX P n w0 R l0 K rest (upd f d (.agg ⟨cl⟩)) Fam) (hg : wantB n f l0 ⟨some d, .build t ⟨parts⟩, ty, pos, aft, g⟩ = true := by exact rfl) (hp : partsEv (Cx.ev n f) parts = some ps := by exact rfl) (h : buildEv Γ t ps = some cl := by exact rfl) : JX P n w0 R l0 K ((0, ⟨some d, .build t ⟨parts⟩, ty, pos, aft, g⟩) :: rest) f Fam :=
  JX.p hg (fun w => by
    have := buildEv_ok (P := P) hΓ hp h w
    simp only [execOp, Sem.run_bind]
    rw [this]
    rfl) k
theorem JX.ld {t : TypeId} {x : Operand} {b off : Nat} {cs : List Value} {e : TypeId} {fr : Nat × Nat} {v : Value} (hΓ : Fits P Γ) (hr : ∀ L, Fam L → Rd R L b (.cells ⟨cs⟩ e fr)) (k : JX P n w0 R l0 K rest (upd f d v) Fam)
    (hg : wantB n f l0 ⟨some d, .load t x, ty, pos, aft, g⟩ = true := by exact rfl) (hp : Cx.ev n f x = .pointer (some ⟨b, off, none⟩) := by exact rfl) (hv : ldEv Γ t cs off = some v := by exact rfl) : JX P n w0 R l0 K ((1, ⟨some d, .load t x, ty, pos, aft, g⟩) :: rest) f Fam := fun a ha => by
  have hw : Region.wanted (⟨some d, .load t x, ty, pos, aft, g⟩ : Oper) (yielded l0.toArray a.tmps) = true := by rw [ha.wanted, hg]
  refine ⟨v, .inl ⟨hw, fun w hC => ?_⟩, k _ (ha.put (some d) v)⟩
  obtain ⟨L, hL, hH⟩ := hC
  unfold Oper.quietAt
  rw [ha.eval, Qt.load (P := P) hΓ hp (hr L hL) hv w hH]
  exact ⟨rfl, rfl⟩
/-- A call that writes, ahead of loads that it does not touch: the family holds after it. -/
theorem JX.callvx {fid : FuncId} {x : Operand} {xs : List Operand} {ats : Array TypeId} {vs cp : List Value} {Φ : Value → List Heap → Prop} (he : Entr P fid) (hx : Cx.ev n f x = .func (.func fid) ⟨[]⟩ ⟨cp⟩) (hg : wantB n f l0 ⟨some d, .call ⟨.value x, ⟨xs⟩, ats⟩, ty, pos, aft, g⟩ = true) (ha : argsEv (Cx.ev n f) xs = some vs)
    (hc : ∀ L w, Fam L → H w0 R L w → Calls P fid ⟨vs ++ cp⟩ w fun e w' => ∃ v L', e = .returned v ∧ H w0 R L' w' ∧ Φ v L') (hF : ∀ v L', Φ v L' → Fam L') (k : ∀ v L', Φ v L' → J P n w0 R l0 K rest (upd f d v) L') : JX P n w0 R l0 K ((3, ⟨some d, .call ⟨.value x, ⟨xs⟩, ats⟩, ty, pos, aft, g⟩) :: rest) f Fam := fun a ha' w hC => by
  obtain ⟨L, hL, hH⟩ := hC
  have hw : Region.wanted (⟨some d, .call ⟨.value x, ⟨xs⟩, ats⟩, ty, pos, aft, g⟩ : Oper) (yielded l0.toArray a.tmps) = true := by rw [ha'.wanted, hg]
  unfold lop
  rw [if_pos hw]
  unfold Oper.wp
  rw [ha'.eval, callv_run he hx ha w]
  refine (hc L w hL hH).mono ?_
  rintro e w' ⟨v, L', rfl, hw', hP⟩
  exact ⟨_, fun _ w1 h1 => ⟨L', hF v L' hP, h1⟩, hw', k v L' hP _ (ha'.put (some d) v)⟩
end
end Go.Cx
