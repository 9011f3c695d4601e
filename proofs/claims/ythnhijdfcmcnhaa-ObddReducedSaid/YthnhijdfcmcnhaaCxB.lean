/-
  The layer's judgements: a list of operations (J), code (JC), a function (calls_of_JC).
-/
import Derived.Test.YthnhijdfcmcnhaaCxA
import Derived.Deep.LoopGhost
import Derived.LoopN
namespace Go.Cx
open Go Go.RowKit
set_option linter.unusedVariables false
set_option linter.unusedSimpArgs false

/-- What code is asked for: K of the way it ends, the frame and the call's own memory. -/
def QW (n : Nat) (w0 : World) (R : Heap) (K : Exit → Fr → List Heap → Prop) : Exit → Act → World → Prop
  | .outgrown, _, _ => False
  | e, a, w => ∃ f L, Rep n f a ∧ H w0 R L w ∧ K e f L

theorem QW.mk {n : Nat} {w0 : World} {R : Heap} {K : Exit → Fr → List Heap → Prop} {e : Exit} {a : Act} {w : World} {f : Fr} {L : List Heap} (he : e ≠ .outgrown) (ha : Rep n f a) (hw : H w0 R L w) (hk : K e f L) : QW n w0 R K e a w := by
  cases e <;> first | exact absurd rfl he | exact ⟨f, L, ha, hw, hk⟩

theorem QW.mono {n : Nat} {w0 : World} {R : Heap} {K K' : Exit → Fr → List Heap → Prop} (h : ∀ e f L, K e f L → K' e f L) {e : Exit} {a : Act} {w : World} (q : QW n w0 R K e a w) : QW n w0 R K' e a w := by
  cases e <;> first | exact q | (obtain ⟨f, L, ha, hw, hk⟩ := q; exact ⟨f, L, ha, hw, h _ _ _ hk⟩)

/-- One operation of a region, in the world w. -/
def lop (P : Program) (ops : Array Oper) (Q : Exit → Act → World → Prop) (o : Oper) (K : Act → World → Prop) (a : Act) (w : World) : Prop :=
  if Region.wanted o (yielded ops a.tmps) = true then o.wp P a w K Q else K (a.put o.dst undef) w
/-- A region's operations in the order of the text, each of a kind: 0: it touches no memory; 1: it gives one value in every world of the class; 2: any other; 3: one that only makes memory. -/
def LX (P : Program) (ops : Array Oper) (Q : Exit → Act → World → Prop) : List (Nat × Oper) → Act → (World → Prop) → Prop
  | [], a, C => ∀ w, C w → Q .normal a w
  | (0, o) :: l, a, C => ∃ v, Yields P ops o v a ∧ LX P ops Q l (a.put o.dst v) C
  | (1, o) :: l, a, C => ∃ v, YieldsIn P ops C o v a ∧ LX P ops Q l (a.put o.dst v) C
  | (c + 2, o) :: l, a, C => ∀ w, C w → lop P ops Q o (fun a' w' => ∃ C' : World → Prop, (c ≠ 0 → ∀ w, C' w → C w) ∧ C' w' ∧ LX P ops Q l a' C') a w
/-- Operations with their kinds; without a kind: 2. -/
def zipK : List Nat → List Oper → List (Nat × Oper)
  | _, [] => []
  | [], o :: l => (2, o) :: zipK [] l
  | k :: ks, o :: l => (k, o) :: zipK ks l

theorem lop_mono {P : Program} {ops : Array Oper} {Q : Exit → Act → World → Prop} {o : Oper} {K K' : Act → World → Prop} {a : Act} {w : World} (h : ∀ a w, K a w → K' a w) (hh : lop P ops Q o K a w) : lop P ops Q o K' a w := by
  unfold lop at *
  split
  · rename_i hw; rw [if_pos hw] at hh; exact Oper.wp_mono h hh
  · rename_i hw; rw [if_neg hw] at hh; exact h _ _ hh

theorem LX.plain {P : Program} {ops : Array Oper} {Q : Exit → Act → World → Prop} : ∀ {l : List Oper} {a : Act} {C : World → Prop}, LX P ops Q (zipK [] l) a C → ∀ w, C w → wpList P ops Q l a w
  | [], a, C, h, w, hw => h w hw
  | o :: l, a, C, h, w, hw => by
    have h1 : lop P ops Q o (fun a' w' => ∃ C' : World → Prop, ((0 : Nat) ≠ 0 → ∀ w, C' w → C w) ∧ C' w' ∧ LX P ops Q (zipK [] l) a' C') a w := h w hw
    unfold lop at h1
    unfold wpList
    split
    · rename_i hg
      rw [if_pos hg] at h1
      exact .inl (Oper.wp_mono (fun a' w' ⟨C', _, hC, hl⟩ => LX.plain hl w' hC) h1)
    · rename_i hg
      rw [if_neg hg] at h1
      obtain ⟨C', _, hC, hl⟩ := h1
      exact LX.plain hl w hC

def J (P : Program) (n : Nat) (w0 : World) (R : Heap) (l0 : List Oper) (K : Exit → Fr → List Heap → Prop) (l : List (Nat × Oper)) (f : Fr) (L : List Heap) : Prop :=
  ∀ a, Rep n f a → LX P l0.toArray (QW n w0 R K) l a (H w0 R L)

def JC (P : Program) (n : Nat) (w0 : World) (R : Heap) (c : Code) (K : Exit → Fr → List Heap → Prop) (f : Fr) (L : List Heap) : Prop :=
  ∀ a w, Rep n f a → H w0 R L w → c.wp P (QW n w0 R K) a w

section
variable {P : Program} {n : Nat} {w0 : World} {R : Heap} {l0 : List Oper} {K : Exit → Fr → List Heap → Prop} {f : Fr} {L : List Heap} {o : Oper} {rest : List (Nat × Oper)} {κ : Nat}

theorem J.nil (h : K .normal f L) : J P n w0 R l0 K [] f L := fun _ ha _ hw => ⟨f, L, ha, hw, h⟩

/-- An operation whose guard says no. -/
theorem J.skip (hg : wantB n f l0 o = false) (k : J P n w0 R l0 K rest (updO f o.dst undef) L) : J P n w0 R l0 K ((κ, o) :: rest) f L := fun a ha => by
  have hw : Region.wanted o (yielded l0.toArray a.tmps) = false := by rw [ha.wanted, hg]
  have hk := k _ (ha.put o.dst undef)
  match κ with
  | 0 => exact ⟨undef, .inr ⟨hw, rfl⟩, hk⟩
  | 1 => exact ⟨undef, .inr ⟨hw, rfl⟩, hk⟩
  | _ + 2 => intro w hC; unfold lop; rw [if_neg (by rw [hw]; simp)]; exact ⟨_, fun _ _ h => h, hC, hk⟩

/-- An operation that gives one value, whatever the world, and leaves it alone. -/
def Qt (P : Program) (n : Nat) (w0 : World) (R : Heap) (L : List Heap) (f : Fr) (o : Oper) (v : Value) : Prop :=
  ∀ w, H w0 R L w → (execOp (ev n f) o).run P w = .ok (.value v) w

theorem J.p {v : Value} (hg : wantB n f l0 o = true) (hv : ∀ w, (execOp (ev n f) o).run P w = .ok (.value v) w) (k : J P n w0 R l0 K rest (updO f o.dst v) L) : J P n w0 R l0 K ((κ, o) :: rest) f L := fun a ha => by
  have hw : Region.wanted o (yielded l0.toArray a.tmps) = true := by rw [ha.wanted, hg]
  have hk := k _ (ha.put o.dst v)
  have hr : ∀ w, (execOp a.eval o).run P w = .ok (.value v) w := fun w => by rw [ha.eval]; exact hv w
  match κ with
  | 0 => exact ⟨v, .inl ⟨hw, hr⟩, hk⟩
  | 1 => exact ⟨v, .inl ⟨hw, fun w _ => by unfold Oper.quietAt; rw [hr]; exact ⟨rfl, rfl⟩⟩, hk⟩
  | _ + 2 =>
    intro w hC
    unfold lop
    rw [if_pos hw]
    unfold Oper.wp
    rw [hr]
    exact ⟨_, fun _ _ h => h, hC, hk⟩

theorem J.q {v : Value} (hg : wantB n f l0 o = true) (hv : Qt P n w0 R L f o v) (k : J P n w0 R l0 K rest (updO f o.dst v) L) : J P n w0 R l0 K ((κ + 1, o) :: rest) f L := fun a ha => by
  have hw : Region.wanted o (yielded l0.toArray a.tmps) = true := by rw [ha.wanted, hg]
  have hk := k _ (ha.put o.dst v)
  have hr : ∀ w, H w0 R L w → (execOp a.eval o).run P w = .ok (.value v) w := fun w h => by rw [ha.eval]; exact hv w h
  match κ with
  | 0 => exact ⟨v, .inl ⟨hw, fun w hC => by unfold Oper.quietAt; rw [hr w hC]; exact ⟨rfl, rfl⟩⟩, hk⟩
  | _ + 1 =>
    intro w hC
    unfold lop
    rw [if_pos hw]
    unfold Oper.wp
    rw [hr w hC]
    exact ⟨_, fun _ _ h => h, hC, hk⟩

/-- An operation that makes or writes memory. -/
theorem J.v {Φ : Value → List Heap → Prop} (hg : wantB n f l0 o = true) (hv : ∀ w, H w0 R L w → ∃ v L' w', (execOp (ev n f) o).run P w = .ok (.value v) w' ∧ H w0 R L' w' ∧ Φ v L')
    (k : ∀ v L', Φ v L' → J P n w0 R l0 K rest (updO f o.dst v) L') : J P n w0 R l0 K ((2, o) :: rest) f L := fun a ha w hC => by
  have hw : Region.wanted o (yielded l0.toArray a.tmps) = true := by rw [ha.wanted, hg]
  unfold lop
  rw [if_pos hw]
  obtain ⟨v, L', w', hr, hw', hP⟩ := hv w hC
  unfold Oper.wp
  rw [ha.eval, hr]
  exact ⟨_, fun h => absurd rfl h, hw', k v L' hP _ (ha.put o.dst v)⟩

theorem J.vg {Φ : Value → Heap → Prop} (hg : wantB n f l0 o = true) (hv : ∀ w, H w0 R L w → ∃ v h w', (execOp (ev n f) o).run P w = .ok (.value v) w' ∧ H w0 R (h :: L) w' ∧ Φ v h)
    (k : ∀ v h, Φ v h → J P n w0 R l0 K rest (updO f o.dst v) (h :: L)) : J P n w0 R l0 K ((κ + 2, o) :: rest) f L := fun a ha w hC => by
  have hw : Region.wanted o (yielded l0.toArray a.tmps) = true := by rw [ha.wanted, hg]
  unfold lop
  rw [if_pos hw]
  obtain ⟨v, h, w', hr, hw', hP⟩ := hv w hC
  unfold Oper.wp
  rw [ha.eval, hr]
  exact ⟨_, fun _ _ h => h.drop, hw', k v h hP _ (ha.put o.dst v)⟩

theorem J.s {L' : List Heap} (hg : wantB n f l0 o = true) (hv : ∀ w, H w0 R L w → ∃ w', (execOp (ev n f) o).run P w = .ok .skip w' ∧ H w0 R L' w')
    (k : J P n w0 R l0 K rest (updO f o.dst undef) L') : J P n w0 R l0 K ((2, o) :: rest) f L := fun a ha w hC => by
  have hw : Region.wanted o (yielded l0.toArray a.tmps) = true := by rw [ha.wanted, hg]
  unfold lop
  rw [if_pos hw]
  obtain ⟨w', hr, hw'⟩ := hv w hC
  unfold Oper.wp
  rw [ha.eval, hr]
  exact ⟨_, fun h => absurd rfl h, hw', k _ (ha.put o.dst undef)⟩

/-- A call. -/
theorem J.c {fid : FuncId} {vs : Array Value} {Φ : Value → List Heap → Prop} (hg : wantB n f l0 o = true) (he : ∀ w, (execOp (ev n f) o).run P w = .ok (.enter fid vs) w)
    (hc : ∀ w, H w0 R L w → Calls P fid vs w fun e w' => ∃ v L', e = .returned v ∧ H w0 R L' w' ∧ Φ v L')
    (k : ∀ v L', Φ v L' → J P n w0 R l0 K rest (updO f o.dst v) L') : J P n w0 R l0 K ((2, o) :: rest) f L := fun a ha w hC => by
  have hw : Region.wanted o (yielded l0.toArray a.tmps) = true := by rw [ha.wanted, hg]
  unfold lop
  rw [if_pos hw]
  unfold Oper.wp
  rw [ha.eval, he w]
  refine (hc w hC).mono ?_
  rintro e w' ⟨v, L', rfl, hw', hP⟩
  exact ⟨_, fun h => absurd rfl h, hw', k v L' hP _ (ha.put o.dst v)⟩

/-- A call that hands back one value and only makes memory that nobody holds. -/
theorem J.c0 {fid : FuncId} {vs : Array Value} {v : Value} (hg : wantB n f l0 o = true) (he : ∀ w, (execOp (ev n f) o).run P w = .ok (.enter fid vs) w)
    (hc : ∀ w, H w0 R L w → Calls P fid vs w fun e w' => e = .returned v ∧ Below w.heap.size w w')
    (k : J P n w0 R l0 K rest (updO f o.dst v) L) : J P n w0 R l0 K ((κ + 1, o) :: rest) f L := by
  match κ with
  | 0 =>
    intro a ha
    have hw : Region.wanted o (yielded l0.toArray a.tmps) = true := by rw [ha.wanted, hg]
    refine ⟨v, .inl ⟨hw, fun w hC => ?_⟩, k _ (ha.put o.dst v)⟩
    unfold Oper.quietAt
    rw [ha.eval, he w]
    exact ⟨rfl, (hc w hC).mono fun e w' ⟨h1, h2⟩ => ⟨h1, hC.grow h2⟩⟩
  | _ + 1 =>
    intro a ha w hC
    have hw : Region.wanted o (yielded l0.toArray a.tmps) = true := by rw [ha.wanted, hg]
    unfold lop
    rw [if_pos hw]
    unfold Oper.wp
    rw [ha.eval, he w]
    refine (hc w hC).mono ?_
    rintro e w' ⟨rfl, h2⟩
    exact ⟨_, fun _ _ h => h, hC.grow h2, k _ (ha.put o.dst v)⟩

/-- A call that hands back memory of its own making. -/
def Gives (Φ : Value → Heap → Prop) (w : World) (e : Ending) (w' : World) : Prop :=
  ∃ v h, e = .returned v ∧ Below w.heap.size w w' ∧ Holds h w' ∧ (∀ x, x ∈ h → w.heap.size ≤ x.1) ∧ (h.map (·.1)).Nodup ∧ Φ v h
theorem J.c1 {fid : FuncId} {vs : Array Value} {Φ : Value → Heap → Prop} (hg : wantB n f l0 o = true) (he : ∀ w, (execOp (ev n f) o).run P w = .ok (.enter fid vs) w)
    (hc : ∀ w, H w0 R L w → Calls P fid vs w (Gives Φ w))
    (k : ∀ v h, Φ v h → J P n w0 R l0 K rest (updO f o.dst v) (h :: L)) : J P n w0 R l0 K ((κ + 2, o) :: rest) f L := fun a ha w hC => by
  have hw : Region.wanted o (yielded l0.toArray a.tmps) = true := by rw [ha.wanted, hg]
  unfold lop
  rw [if_pos hw]
  unfold Oper.wp
  rw [ha.eval, he w]
  refine (hc w hC).mono ?_
  rintro e w' ⟨v, h, rfl, h2, h3, h4, h5, h6⟩
  exact ⟨_, fun _ _ h => h.drop, hC.fresh h2 h3 h4 h5, k v h h6 _ (ha.put o.dst v)⟩

theorem YieldsIn.sub {ops : Array Oper} {C C' : World → Prop} {o : Oper} {v : Value} {a : Act} (hs : ∀ w, C' w ↔ C w) (h : YieldsIn P ops C o v a) : YieldsIn P ops C' o v a := by
  have : C' = C := funext fun w => propext (hs w)
  rw [this]; exact h
theorem J.perm {L' : List Heap} {l : List (Nat × Oper)} (hp : L.Perm L') (k : J P n w0 R l0 K l f L') : J P n w0 R l0 K l f L := fun a ha => by
  have : H w0 R L = H w0 R L' := funext fun w => propext ⟨fun h => h.perm hp, fun h => h.perm hp.symm⟩
  rw [this]
  exact k a ha
theorem J.bring {l : List (Nat × Oper)} (i : Nat) {L' : List Heap} (hb : Cx.bring i L = L') (k : J P n w0 R l0 K l f L') : J P n w0 R l0 K l f L := J.perm (hb ▸ bring_perm i L) k
theorem J.pin {l : List (Nat × Oper)} (i : Nat) {v : Value} (e : f i = v) (k : J P n w0 R l0 K l (upd f i v) L) : J P n w0 R l0 K l f L := by
  have : upd f i v = f := funext fun j => by
    by_cases h : j = i
    · subst h; rw [upd_same, e]
    · exact upd_ne f v h
  rw [this] at k
  exact k
end

/-! ### Code -/
section
variable {P : Program} {n : Nat} {w0 : World} {R : Heap} {K : Exit → Fr → List Heap → Prop} {f : Fr} {L : List Heap}

/-- What stands behind the first of two. -/
def thenK (P : Program) (n : Nat) (w0 : World) (R : Heap) (y : Code) (K : Exit → Fr → List Heap → Prop) : Exit → Fr → List Heap → Prop
  | .normal, f, L => JC P n w0 R y K f L
  | e, f, L => K e f L
theorem JC.seq {x y : Code} (h : JC P n w0 R x (thenK P n w0 R y K) f L) : JC P n w0 R (.seq x y) K f L := fun a w ha hw => by
  refine wp_seq (wp_mono (h a w ha hw) ?_)
  intro e a' w' q
  cases e <;> first | exact q | (obtain ⟨f', L', ha', hw', hk⟩ := q; first | exact hk a' w' ha' hw' | exact ⟨f', L', ha', hw', hk⟩)
theorem JC.skip (h : K .normal f L) : JC P n w0 R .skip K f L := fun _ _ ha hw => wp_skip ⟨f, L, ha, hw, h⟩
theorem JC.label {l : Nat} (h : K .normal f L) : JC P n w0 R (.label l) K f L := fun _ _ ha hw => wp_label ⟨f, L, ha, hw, h⟩
theorem JC.exit {id : Nat} (h : K (.exit id) f L) : JC P n w0 R (.exit id) K f L := fun _ _ ha hw => wp_exit ⟨f, L, ha, hw, h⟩
theorem JC.ret (h : K .ret f L) : JC P n w0 R .ret K f L := fun _ _ ha hw => wp_ret ⟨f, L, ha, hw, h⟩
theorem JC.region {id : Nat} {l : List Oper} (h : J P n w0 R l K (zipK [] l) f L) : JC P n w0 R (.region id l.toArray false) K f L := fun a w ha hw => wp_region_lit (LX.plain (h a ha) w hw)
theorem JC.cond {c : Operand} {x y : Code} {b : Bool} (hc : ev n f c = .bool b) (ht : b = true → JC P n w0 R x K f L) (hf : b = false → JC P n w0 R y K f L) : JC P n w0 R (.cond c x y) K f L := fun a w ha hw =>
  wp_cond_split (by rw [ha.eval]; exact hc) (fun hb => ht hb a w ha hw) (fun hb => hf hb a w ha hw)
theorem JC.condT {c : Operand} {x y : Code} (hc : ev n f c = .bool true) (ht : JC P n w0 R x K f L) : JC P n w0 R (.cond c x y) K f L := fun a w ha hw =>
  wp_cond_true (by rw [ha.eval]; exact hc) (ht a w ha hw)
theorem JC.condF {c : Operand} {x y : Code} (hc : ev n f c = .bool false) (ht : JC P n w0 R y K f L) : JC P n w0 R (.cond c x y) K f L := fun a w ha hw =>
  wp_cond_false (by rw [ha.eval]; exact hc) (ht a w ha hw)

def blockK (id : Nat) (K : Exit → Fr → List Heap → Prop) : Exit → Fr → List Heap → Prop
  | .exit i, f, L => bif Nat.beq i id then K .normal f L else K (.exit i) f L
  | e, f, L => K e f L
theorem JC.block {id : Nat} {c : Code} (h : JC P n w0 R c (blockK id K) f L) : JC P n w0 R (.block id c) K f L := fun a w ha hw => by
  refine wp_block (wp_mono (h a w ha hw) ?_)
  intro e a' w' q
  cases e with
  | exit i =>
    obtain ⟨f', L', ha', hw', hk⟩ := q
    simp only [Exit.inBlock]
    by_cases hi : i = id
    · subst hi
      rw [if_pos rfl]
      have : Nat.beq i i = true := by simp
      simp only [blockK, this, cond_true] at hk
      exact ⟨f', L', ha', hw', hk⟩
    · rw [if_neg hi]
      have : Nat.beq i id = false := by
        cases hb : Nat.beq i id
        · rfl
        · exact absurd (Nat.eq_of_beq_eq_true hb) hi
      simp only [blockK, this, cond_false] at hk
      exact ⟨f', L', ha', hw', hk⟩
  | _ => exact q

theorem JC.pin {c : Code} (i : Nat) {v : Value} (e : f i = v) (k : JC P n w0 R c K (upd f i v) L) : JC P n w0 R c K f L := by
  have : upd f i v = f := funext fun j => by
    by_cases h : j = i
    · subst h; rw [upd_same, e]
    · exact upd_ne f v h
  rw [this] at k
  exact k
theorem JC.perm {L' : List Heap} {c : Code} (hp : L.Perm L') (k : JC P n w0 R c K f L') : JC P n w0 R c K f L := fun a w ha hw => k a w ha (hw.perm hp)
theorem JC.bring {c : Code} (i : Nat) {L' : List Heap} (hb : Cx.bring i L = L') (k : JC P n w0 R c K f L') : JC P n w0 R c K f L := JC.perm (hb ▸ bring_perm i L) k
theorem JC.drop {c : Code} {h : Heap} (k : JC P n w0 R c K f L) : JC P n w0 R c K f (h :: L) := fun a w ha hw => k a w ha hw.drop
theorem JC.mono {c : Code} {K' : Exit → Fr → List Heap → Prop} (h : JC P n w0 R c K f L) (hk : ∀ e f L, K e f L → K' e f L) : JC P n w0 R c K' f L := fun a w ha hw => wp_mono (h a w ha hw) fun _ _ _ q => q.mono hk

/-- The slots outside 'ws' are as they were. -/
def Ag (ws : Nat → Bool) (f g : Fr) : Prop := ∀ i, ws i = false → g i = f i
/-- The slots in 'ws' as in g, the others as in f. -/
def havoc (ws : Nat → Bool) (f g : Fr) : Fr := fun i => bif ws i then g i else f i
theorem Ag.rfl' {ws : Nat → Bool} {f : Fr} : Ag ws f f := fun _ _ => rfl
theorem Ag.hv {ws : Nat → Bool} {f g : Fr} : Ag ws f (havoc ws f g) := fun i hi => by simp [havoc, hi]
theorem Ag.upd {ws : Nat → Bool} {f g : Fr} {d : Nat} {v : Value} (hd : ws d = true) (h : Ag ws f g) : Ag ws f (upd g d v) := fun i hi => by
  rw [upd_ne g v (fun e => by rw [e, hd] at hi; cases hi)]; exact h i hi
theorem Ag.updO {ws : Nat → Bool} {f g : Fr} {d : Nat} {v : Value} (hd : ws d = true) (h : Ag ws f g) : Ag ws f (updO g (some d) v) := Ag.upd hd h
theorem Ag.updN {ws : Nat → Bool} {f g : Fr} {v : Value} (h : Ag ws f g) : Ag ws f (Cx.updO g none v) := h
theorem Ag.eq {ws : Nat → Bool} {f g : Fr} (h : Ag ws f g) : havoc ws f g = g := funext fun i => by
  by_cases hi : ws i = true
  · simp [havoc, hi]
  · have hi' : ws i = false := by simpa using hi
    simp [havoc, hi', h i hi']

/-- What a round is asked for: the invariant at a smaller number. -/
def loopK (ws : Nat → Bool) (f0 : Fr) (I : Nat → Fr → List Heap → Prop) (m : Nat) (K : Exit → Fr → List Heap → Prop) : Exit → Fr → List Heap → Prop
  | .normal, f, L => Ag ws f0 f ∧ ∃ m', m' < m ∧ ∃ J L', L.Perm (J ++ L') ∧ I m' f L'
  | e, f, L => K e f L
theorem H.drops {w0 w : World} {R : Heap} : ∀ {J L : List Heap}, H w0 R (J ++ L) w → H w0 R L w
  | [], _, h => h
  | _ :: J, _, h => H.drops (J := J) h.drop
/-- A loop: 'ws' says which slots its body may write; the invariant speaks of a number that each round lowers, of the frame and of the call's own memory. -/
theorem JC.loop {c : Code} (ws : Nat → Bool) (I : Nat → Fr → List Heap → Prop) (m0 : Nat) (h0 : I m0 f L)
    (round : ∀ m g L', I m g L' → JC P n w0 R c (loopK ws f I m K) (havoc ws f g) L') : JC P n w0 R (.loop c) K f L := fun a w ha hw => by
  refine wp_loop_ghost (fun m a w => ∃ g L', Rep n g a ∧ H w0 R L' w ∧ Ag ws f g ∧ I m g L') m0 ⟨f, L, ha, hw, Ag.rfl', h0⟩ ?_
  rintro m a w ⟨g, L', ha, hw, hag, hI⟩
  have hr := round m g L' hI
  rw [hag.eq] at hr
  refine wp_mono (hr a w ha hw) ?_
  intro e a' w' q
  cases e <;> first | exact q | (obtain ⟨f', L'', ha', hw', hk⟩ := q; first | exact ⟨f', L'', ha', hw', hk⟩ | (obtain ⟨h1, m', h2, J, L3, hp, h3⟩ := hk; exact ⟨m', h2, f', L3, ha', (hw'.perm hp).drops, h1, h3⟩))

/-- A loop that is walked round by round, at most k rounds. -/
def roundK (P : Program) (n : Nat) (w0 : World) (R : Heap) (c : Code) (K : Exit → Fr → List Heap → Prop) : Nat → Exit → Fr → List Heap → Prop
  | 0, .normal, _, _ => False
  | k + 1, .normal, f, L => JC P n w0 R c (roundK P n w0 R c K k) f L
  | _, e, f, L => K e f L
theorem roundK.nn {c : Code} {k : Nat} (h : JC P n w0 R c (roundK P n w0 R c K k) f L) : roundK P n w0 R c K (k + 1) .normal f L := h
theorem roundK.r {c : Code} {k : Nat} (h : K .ret f L) : roundK P n w0 R c K k .ret f L := by cases k <;> exact h
theorem roundK.x {c : Code} {k i : Nat} (h : K (.exit i) f L) : roundK P n w0 R c K k (.exit i) f L := by cases k <;> exact h
theorem rounds_of {c : Code} : ∀ (k : Nat) (f : Fr) (L : List Heap), JC P n w0 R c (roundK P n w0 R c K k) f L → ∀ a w, Rep n f a → H w0 R L w → Code.rounds P c (QW n w0 R K) (k + 1) a w
  | k, f, L, h, a, w, ha, hw => by
    refine wp_mono (h a w ha hw) ?_
    intro e a' w' q
    cases e
    case normal =>
      cases k with
      | zero => obtain ⟨f', L', _, _, hk⟩ := q; exact hk.elim
      | succ k => obtain ⟨f', L', ha', hw', hk⟩ := q; exact rounds_of k f' L' hk a' w' ha' hw'
    all_goals (cases k <;> exact q)
theorem JC.rounds {c : Code} (k : Nat) (h : JC P n w0 R c (roundK P n w0 R c K k) f L) : JC P n w0 R (.loop c) K f L := fun a w ha hw => wp_loop_rounds (k + 1) (rounds_of k f L h a w ha hw)

/-- The ways through the first meet again: M. -/
theorem JC.cut {x y : Code} (M : Fr → List Heap → Prop) (h : JC P n w0 R x (fun e f L => match e with | .normal => M f L | e => K e f L) f L) (k : ∀ g L', M g L' → JC P n w0 R y K g L') : JC P n w0 R (.seq x y) K f L :=
  JC.seq (h.mono fun e g L' q => by cases e <;> first | exact q | exact k _ _ q)
end

/-! ### A function -/
def fr0 (args : List Value) : Fr := fun i => args.getD i undef
/-- What a body is asked for at its end. -/
def retK (P : Program) (fn : Func) (n : Nat) (w0 : World) (R : Heap) (Post : Ending → World → Prop) : Exit → Fr → List Heap → Prop
  | .ret, f, L | .normal, f, L => ∀ a w, Rep n f a → H w0 R L w → ∃ v, (results fn a.tmps).run P w = .ok v w ∧ Post (.returned v) w
  | _, _, _ => False

theorem fr0_rep {args : List Value} {n : Nat} (h : args.length ≤ n) : Rep n (fr0 args) { tmps := args.toArray ++ Array.replicate (n - args.toArray.size) undef, defers := [] } := by
  refine ⟨by simp; omega, rfl, fun i hi => ?_⟩
  unfold fr0
  by_cases hlt : i < args.length
  · simp [hlt, Array.getElem?_append_left]
  · rw [Array.getElem?_append_right (by simp; omega)]
    simp only [List.size_toArray]
    rw [Array.getElem?_replicate, if_pos (by omega)]
    simp [List.getElem?_eq_none (Nat.le_of_not_lt hlt)]

theorem calls_of_JC {P : Program} {fid : FuncId} {fn : Func} {c : Code} {n : Nat} {args : List Value} {w : World} {R : Heap} {Post : Ending → World → Prop}
    (hf : P.funcs[fid]? = some fn) (hn : fn.ntmps = n) (hb : fn.body = some c) (hsz : Nat.ble args.length n = true) (hR : Holds R w) (h : JC P n w R c (retK P fn n w R Post) (fr0 args) []) : Calls P fid args.toArray w Post := by
  refine calls_of_wp hf hb ?_
  rw [hn]
  refine wp_mono (h _ w (fr0_rep (Nat.le_of_ble_eq_true hsz)) (H.start hR)) ?_
  intro e a' w' q
  cases e with
  | normal =>
    obtain ⟨f', L', ha', hw', hk⟩ := q
    obtain ⟨v, h1, h2⟩ := hk a' w' ha' hw'
    exact ⟨ha'.2.1, v, h1, h2⟩
  | ret =>
    obtain ⟨f', L', ha', hw', hk⟩ := q
    obtain ⟨v, h1, h2⟩ := hk a' w' ha' hw'
    exact ⟨ha'.2.1, v, h1, h2⟩
  | exit i => obtain ⟨_, _, _, _, hk⟩ := q; exact hk.elim
  | goto i => obtain ⟨_, _, _, _, hk⟩ := q; exact hk.elim
  | panic i => obtain ⟨_, _, _, _, hk⟩ := q; exact hk.elim
  | outgrown => exact q.elim

section
variable {P : Program} {fn : Func} {n : Nat} {w0 : World} {R : Heap} {Post : Ending → World → Prop} {f : Fr} {L : List Heap}
theorem Rep.getD {a : Act} (h : Rep n f a) {t : Nat} (ht : Nat.blt t n = true) : a.tmps.getD t undef = f t := by
  have := congrFun h.eval (.tmp t)
  simpa [Act.eval, ev, ht] using this
theorem ret0 (hr : fn.results = #[]) (h : ∀ w, H w0 R L w → Post (.returned (.tuple #[])) w) : retK P fn n w0 R Post .ret f L := fun a w _ hw => ⟨_, results_none hr _ _ _, h w hw⟩
theorem ret0n (hr : fn.results = #[]) (h : ∀ w, H w0 R L w → Post (.returned (.tuple #[])) w) : retK P fn n w0 R Post .normal f L := fun a w _ hw => ⟨_, results_none hr _ _ _, h w hw⟩
theorem ret1 {t : Nat} {v : Value} (hr : fn.results = #[.tmp t]) (ht : Nat.blt t n = true) (hv : f t = v) (h : ∀ w, H w0 R L w → Post (.returned v) w) : retK P fn n w0 R Post .ret f L :=
  fun a w ha hw => ⟨_, results_tmp hr _ _ _, by rw [ha.getD ht, hv]; exact h w hw⟩
theorem ret2 {t u : Nat} {v x : Value} (hr : fn.results = #[.tmp t, .tmp u]) (ht : Nat.blt t n = true) (hu : Nat.blt u n = true) (hv : f t = v) (hx : f u = x) (h : ∀ w, H w0 R L w → Post (.returned (.tuple #[v, x])) w) : retK P fn n w0 R Post .ret f L :=
  fun a w ha hw => ⟨_, results_tmp2 hr _ _ _, by rw [ha.getD ht, hv, ha.getD hu, hx]; exact h w hw⟩
theorem ret3 {t u s : Nat} {v x y : Value} (hr : fn.results = #[.tmp t, .tmp u, .tmp s]) (ht : Nat.blt t n = true) (hu : Nat.blt u n = true) (hs : Nat.blt s n = true) (hv : f t = v) (hx : f u = x) (hy : f s = y)
    (h : ∀ w, H w0 R L w → Post (.returned (.tuple #[v, x, y])) w) : retK P fn n w0 R Post .ret f L :=
  fun a w ha hw => ⟨.tuple #[a.tmps.getD t undef, a.tmps.getD u undef, a.tmps.getD s undef], by simp [results, hr], by rw [ha.getD ht, hv, ha.getD hu, hx, ha.getD hs, hy]; exact h w hw⟩
end
end Go.Cx
