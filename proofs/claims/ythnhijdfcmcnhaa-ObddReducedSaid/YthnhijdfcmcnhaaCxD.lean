/-
  The layer's rules for single operations: reduction, guards, loads, boxes, new variables, stores.
-/
import Derived.Test.YthnhijdfcmcnhaaCxC
namespace Go.Cx
open Go Go.RowKit
set_option linter.unusedVariables false
set_option linter.unusedSimpArgs false

/-- A list, laid out. -/
def forceL {β : Type} : List Value → (List Value → Option β) → Option β
  | [], k => k []
  | x :: l, k => forceL l fun l' => k (x :: l')
theorem forceL_eq {β : Type} (l : List Value) (k : List Value → Option β) : forceL l k = k l := by
  induction l generalizing k with
  | nil => rfl
  | cons x l ih => simp only [forceL]; rw [ih]

/-- What a load gives out of a row of cells. -/
def ldEv (Γ : List (Nat × TI)) (t : TypeId) (cs : List Value) (off : Nat) : Option Value :=
  match look Γ t with
  | some ⟨.struct _, s, _, _⟩ => bif Nat.ble (off + s) cs.length then forceL ((cs.drop off).take s) (fun l => some (.agg l.toArray)) else none
  | some ⟨.array _ _, s, _, _⟩ => bif Nat.ble (off + s) cs.length then forceL ((cs.drop off).take s) (fun l => some (.agg l.toArray)) else none
  | some _ => match cs[off]? with | some v => frc v | none => none
  | none => none

/-- The cells of a value. -/
def vcells : Value → Option (List Value)
  | .agg ⟨cs⟩ => some cs
  | .bool b => some [.bool b]
  | .int k n => some [.int k n]
  | .string s => some [.string s]
  | .pointer a => some [.pointer a]
  | .slice a n c => some [.slice a n c]
  | .map r => some [.map r]
  | .func fn x y => some [.func fn x y]
  | .nilFunc => some [.nilFunc]
  | _ => none
theorem vcells_eq {v : Value} {cl : List Value} (h : vcells v = some cl) : v.cells = cl.toArray := by
  cases v <;> simp [vcells] at h <;> try (subst h; rfl)

/-- Values of one cell each. -/
def ones : List Value → Bool
  | [] => true
  | .agg _ :: _ => false
  | .tuple _ :: _ => false
  | _ :: l => ones l
theorem ones_ok {l : List Value} (h : ones l = true) : ∀ v ∈ l, v.oneCell' = true := by
  induction l with
  | nil => intro v hv; cases hv
  | cons x l ih =>
    intro v hv
    cases x <;> simp only [ones] at h <;> first | (cases h; done) | (rcases List.mem_cons.1 hv with hv | hv <;> first | (subst hv; rfl) | exact ih h v hv)

/-- Cells laid over others. -/
def putL : List Value → Nat → List Value → List Value
  | [], _, _ => []
  | c :: cs, k + 1, l => c :: putL cs k l
  | c :: cs, 0, [] => c :: cs
  | c :: cs, 0, x :: l => x :: putL cs 0 l
theorem putL_nil (cs : List Value) (k : Nat) : putL cs k [] = cs := by
  induction cs generalizing k with
  | nil => rfl
  | cons c cs ih => cases k with
    | zero => rfl
    | succ k => simp only [putL]; rw [ih]
theorem putL_length (cs : List Value) (k : Nat) (l : List Value) : (putL cs k l).length = cs.length := by
  induction cs generalizing k l with
  | nil => rfl
  | cons c cs ih =>
    cases k with
    | succ k => simp only [putL, List.length_cons, ih]
    | zero => cases l with
      | nil => rfl
      | cons x l => simp only [putL, List.length_cons, ih]
theorem putL_eq (cs : List Value) (k : Nat) (l : List Value) (h : k + l.length ≤ cs.length) : putL cs k l = cs.take k ++ l ++ cs.drop (k + l.length) := by
  induction cs generalizing k l with
  | nil =>
    simp at h
    obtain ⟨rfl, rfl⟩ := h
    rfl
  | cons c cs ih =>
    cases k with
    | succ k =>
      simp only [putL, List.take_succ_cons, List.cons_append]
      rw [ih k l (by simp at h; omega)]
      rw [show k + 1 + l.length = (k + l.length) + 1 by omega, List.drop_succ_cons]
    | zero =>
      cases l with
      | nil => simp [putL]
      | cons x l =>
        simp only [putL, List.take_zero, List.nil_append, List.cons_append]
        rw [ih 0 l (by simp at h ⊢; omega)]
        simp
/-- Cells laid over others, laid out. -/
def putE (cs : List Value) (k : Nat) (l : List Value) : Option (List Value) := bif Nat.ble (k + l.length) cs.length then forceL (putL cs k l) some else none

section
variable {P : Program} {n : Nat} {w0 : World} {R : Heap} {l0 : List Oper} {K : Exit → Fr → List Heap → Prop} {f : Fr} {L : List Heap} {rest : List (Nat × Oper)} {κ : Nat}
variable {Γ : List (Nat × TI)} {d : Nat} {op : Op} {ty : TypeId} {pos : String} {aft : Array Edge} {g : Option (Nat × Bool)}

theorem J.ev {v : Value} (hΓ : Fits P Γ) (hg : wantB n f l0 ⟨some d, op, ty, pos, aft, g⟩ = true) (h : pureEv Γ (ev n f) op = some v) (k : J P n w0 R l0 K rest (upd f d v) L) : J P n w0 R l0 K ((κ, ⟨some d, op, ty, pos, aft, g⟩) :: rest) f L :=
  J.p hg (fun w => pure_ok hΓ h w) k
theorem J.qd {v : Value} (hg : wantB n f l0 ⟨some d, op, ty, pos, aft, g⟩ = true) (h : Qt P n w0 R L f ⟨some d, op, ty, pos, aft, g⟩ v) (k : J P n w0 R l0 K rest (upd f d v) L) : J P n w0 R l0 K ((κ + 1, ⟨some d, op, ty, pos, aft, g⟩) :: rest) f L :=
  J.q hg h k
theorem J.skd (hg : wantB n f l0 ⟨some d, op, ty, pos, aft, g⟩ = false) (k : J P n w0 R l0 K rest (upd f d undef) L) : J P n w0 R l0 K ((κ, ⟨some d, op, ty, pos, aft, g⟩) :: rest) f L :=
  J.skip hg k
theorem J.skn (hg : wantB n f l0 ⟨none, op, ty, pos, aft, g⟩ = false) (k : J P n w0 R l0 K rest f L) : J P n w0 R l0 K ((κ, ⟨none, op, ty, pos, aft, g⟩) :: rest) f L :=
  J.skip hg k
/-- A Boolean in a slot is parted on. -/
theorem J.case {l : List (Nat × Oper)} (i : Nat) {c : Bool} (hc : f i = .bool c) (ht : c = true → J P n w0 R l0 K l (upd f i (.bool true)) L) (hf : c = false → J P n w0 R l0 K l (upd f i (.bool false)) L) : J P n w0 R l0 K l f L := by
  cases c with
  | true => exact J.pin i hc (ht rfl)
  | false => exact J.pin i hc (hf rfl)
/-- A guard that is not decided is parted on. -/
theorem J.gc {dst : Option Tmp} {j i : Nat} {b0 c : Bool} (hd : dstAt l0 j = some i) (hc : f i = .bool c)
    (ht : c = true → J P n w0 R l0 K ((κ, ⟨dst, op, ty, pos, aft, some (j, b0)⟩) :: rest) (upd f i (.bool true)) L) (hf : c = false → J P n w0 R l0 K ((κ, ⟨dst, op, ty, pos, aft, some (j, b0)⟩) :: rest) (upd f i (.bool false)) L) :
    J P n w0 R l0 K ((κ, ⟨dst, op, ty, pos, aft, some (j, b0)⟩) :: rest) f L := J.case i hc ht hf

theorem ldEv_ok (hΓ : Fits P Γ) {t : TypeId} {cs : List Value} {off b : Nat} {v : Value} {e : TypeId} {fr : Nat × Nat} {w : World} (hw : w.heap[b]? = some (.cells cs.toArray e fr)) (h : ldEv Γ t cs off = some v) : (Instr.loadAt t (.pointer (some ⟨b, off, none⟩))).run P w = .ok v w := by
  have hcell : ∀ j, w.cell? ⟨b, j, none⟩ = cs[j]? := fun j => by rw [cell_of_row w b j cs.toArray e fr hw]; simp
  have hadd : ∀ j, (⟨b, off, none⟩ : Addr).add j = ⟨b, off + j, none⟩ := fun j => by unfold Addr.add; split <;> simp_all
  unfold ldEv at h
  cases ht : look Γ t with
  | none => rw [ht] at h; cases h
  | some ti =>
    have hu := (hΓ t _ ht).1
    have hsz := sizeOf_run hΓ ht w
    have hag := isAgg_run hu w
    obtain ⟨de, s, z, by'⟩ := ti
    rw [ht] at h
    unfold Instr.loadAt Instr.sureAddr
    simp only [Sem.run_bind, Sem.run_pure, Result.andThen_ok]
    unfold loadVar
    simp only [Sem.run_bind, hag, Result.andThen_ok]
    have agg : ∀ (hb : (bif Nat.ble (off + s) cs.length then forceL ((cs.drop off).take s) (fun l => some (Value.agg l.toArray)) else none) = some v),
        ((sizeOf t).run P w).andThen (fun a w' => ((loadCells ⟨b, off, none⟩ a).run P w').andThen fun a w' => (pure (Value.agg a) : Sem Value).run P w') = .ok v w := by
      intro hb
      cases hle : Nat.ble (off + s) cs.length with
      | false => rw [hle] at hb; cases hb
      | true =>
        rw [hle] at hb
        simp only [cond_true, forceL_eq, Option.some.injEq] at hb
        have hle' := Nat.le_of_ble_eq_true hle
        have hl : ((cs.drop off).take s).length = s := by simp; omega
        have := run_loadCells_list (P := P) w ⟨b, off, none⟩ ((cs.drop off).take s) (fun j x hj => by
          rw [hadd, hcell]
          rw [List.getElem?_take] at hj
          split at hj
          · rw [List.getElem?_drop] at hj; exact hj
          · cases hj)
        rw [hl] at this
        rw [hsz]
        simp only [Result.andThen_ok]
        rw [this]
        simp only [Result.andThen_ok, Sem.run_pure]
        rw [hb]
    cases de
    case struct fs => simp only [if_true, Sem.run_bind]; exact agg h
    case array m e' => simp only [if_true, Sem.run_bind]; exact agg h
    all_goals
      simp only at h
      cases hc : cs[off]? with
      | none => rw [hc] at h; cases h
      | some u =>
        rw [hc] at h
        have := frc_eq h
        subst this
        simp [run_load, hcell, hc, go_sem]

theorem Qt.load {t : TypeId} {x : Operand} {dst : Option Tmp} {b off : Nat} {cs : List Value} {e : TypeId} {fr : Nat × Nat} {v : Value} (hΓ : Fits P Γ) (hp : Cx.ev n f x = .pointer (some ⟨b, off, none⟩)) (hr : Rd R L b (.cells ⟨cs⟩ e fr)) (hv : ldEv Γ t cs off = some v) :
    Qt P n w0 R L f ⟨dst, .load t x, ty, pos, aft, g⟩ v := fun w hw => by
  have := ldEv_ok (P := P) hΓ (hw.rd hr) hv
  simp only [execOp, hp, Sem.run_bind]
  rw [this]
  rfl

theorem J.load {t : TypeId} {x : Operand} {b off : Nat} {cs : List Value} {e : TypeId} {fr : Nat × Nat} {v : Value} (hΓ : Fits P Γ) (hg : wantB n f l0 ⟨some d, .load t x, ty, pos, aft, g⟩ = true) (hp : Cx.ev n f x = .pointer (some ⟨b, off, none⟩)) (hr : Rd R L b (.cells ⟨cs⟩ e fr)) (hv : ldEv Γ t cs off = some v)
    (k : J P n w0 R l0 K rest (upd f d v) L) : J P n w0 R l0 K ((κ + 1, ⟨some d, .load t x, ty, pos, aft, g⟩) :: rest) f L := J.q hg (Qt.load hΓ hp hr hv) k

/-- A variable of its own for a value. -/
theorem J.box {t : TypeId} {x : Operand} {cl : List Value} (hg : wantB n f l0 ⟨some d, .box t x, ty, pos, aft, g⟩ = true) (hc : vcells (Cx.ev n f x) = some cl)
    (k : ∀ b, J P n w0 R l0 K rest (upd f d (.pointer (some ⟨b, 0, none⟩))) ([(b, .cells ⟨cl⟩ t (0, 0))] :: L)) : J P n w0 R l0 K ((κ + 2, ⟨some d, .box t x, ty, pos, aft, g⟩) :: rest) f L :=
  J.vg (Φ := fun v h => ∃ b, v = .pointer (some ⟨b, 0, none⟩) ∧ h = [(b, .cells ⟨cl⟩ t (0, 0))]) hg
    (fun w hw => ⟨.pointer (some ⟨w.heap.size, 0, none⟩), _, _, by simp only [execOp, Instr.box, newVar, newRow, vcells_eq hc]; rfl, hw.alloc _, w.heap.size, rfl, rfl⟩)
    (fun v L' ⟨b, h1, h2⟩ => by subst h1; subst h2; exact k b)

/-- A new variable. -/
theorem J.alloc {t : TypeId} {ti : TI} {z : Value} {cl : List Value} (hΓ : Fits P Γ) (hg : wantB n f l0 ⟨some d, .alloc t, ty, pos, aft, g⟩ = true) (ht : look Γ t = some ti) (hz : ti.zero = some z) (hc : vcells z = some cl)
    (k : ∀ b, J P n w0 R l0 K rest (upd f d (.pointer (some ⟨b, 0, none⟩))) ([(b, .cells ⟨cl⟩ t (0, 0))] :: L)) : J P n w0 R l0 K ((κ + 2, ⟨some d, .alloc t, ty, pos, aft, g⟩) :: rest) f L := by
  obtain ⟨hu, i, hi, hs, hzz, hb⟩ := hΓ t _ ht
  have hzr : ∀ w, (zeroValue t).run P w = .ok z w := fun w => by simp [zeroValue, typeInfo, hi, hzz, hz, go_sem]
  exact J.vg (Φ := fun v h => ∃ b, v = .pointer (some ⟨b, 0, none⟩) ∧ h = [(b, .cells ⟨cl⟩ t (0, 0))]) hg
    (fun w hw => ⟨.pointer (some ⟨w.heap.size, 0, none⟩), _, _, by simp only [execOp, Instr.alloc, Sem.run_bind, hzr, Result.andThen_ok, newVar, newRow, vcells_eq hc]; rfl, hw.alloc _, w.heap.size, rfl, rfl⟩)
    (fun v L' ⟨b, h1, h2⟩ => by subst h1; subst h2; exact k b)

theorem store_ok (hΓ : Fits P Γ) {t : TypeId} {ti : TI} {b off : Nat} {cs cl cs' : List Value} {e : TypeId} {v : Value} {w : World} (ht : look Γ t = some ti) (hv : vcells v = some cl) (hn : Nat.beq cl.length ti.size = true) (h1 : ones cl = true) (hp : off + cl.length ≤ cs.length) (hcs : putL cs off cl = cs')
    (hw : H w0 R ([(b, .cells ⟨cs⟩ e (0, 0))] :: L) w) : ∃ w', (Instr.storeAt t (.pointer (some ⟨b, off, none⟩)) v).run P w = .ok () w' ∧ H w0 R ([(b, .cells ⟨cs'⟩ e (0, 0))] :: L) w' := by
  have hb : w.heap[b]? = some (.cells ⟨cs⟩ e (0, 0)) := hw.own (b, _) (by simp)
  have hsz := sizeOf_run hΓ ht w
  have hst := run_storeCells_at P b off e cl 0 ⟨cs⟩ w hb (by simpa using hp) (ones_ok h1)
  refine ⟨w.setRow b (cs.take off ++ cl ++ cs.drop (off + cl.length)).toArray, ?_, ?_⟩
  · unfold Instr.storeAt Instr.sureAddr
    simp only [Sem.run_bind, Sem.run_pure, Result.andThen_ok]
    unfold storeVar
    simp only [Sem.run_bind, hsz, Result.andThen_ok, vcells_eq hv]
    rw [if_neg (by simp; exact Nat.eq_of_beq_eq_true hn)]
    simpa using hst
  · refine hw.write rfl rfl rfl (by simp) (o' := .cells ⟨cs'⟩ e (0, 0)) ?_ (fun k hk => setRow_other _ _ _ _ hk)
    rw [setRow_heap w b _ _ e _ hb, ← hcs, putL_eq cs off cl hp]

/-- A store into the first of the call's own blocks. -/
theorem J.store0 {t : TypeId} {ti : TI} {x y : Operand} {b off : Nat} {cs cl cs' : List Value} {e : TypeId} (hΓ : Fits P Γ) (hg : wantB n f l0 ⟨none, .store t x y, ty, pos, aft, g⟩ = true) (hp : Cx.ev n f x = .pointer (some ⟨b, off, none⟩)) (ht : look Γ t = some ti)
    (hv : vcells (Cx.ev n f y) = some cl) (hn : Nat.beq cl.length ti.size = true) (h1 : ones cl = true) (hcs : putE cs off cl = some cs')
    (k : J P n w0 R l0 K rest f ([(b, .cells ⟨cs'⟩ e (0, 0))] :: L)) : J P n w0 R l0 K ((2, ⟨none, .store t x y, ty, pos, aft, g⟩) :: rest) f ([(b, .cells ⟨cs⟩ e (0, 0))] :: L) := by
  unfold putE at hcs
  cases hle : Nat.ble (off + cl.length) cs.length with
  | false => rw [hle] at hcs; cases hcs
  | true =>
    rw [hle] at hcs
    simp only [cond_true, forceL_eq, Option.some.injEq] at hcs
    refine J.s hg (fun w hw => ?_) k
    obtain ⟨w', hr, hw'⟩ := store_ok hΓ ht hv hn h1 (Nat.le_of_ble_eq_true hle) hcs hw
    exact ⟨w', by simp only [execOp, hp, Sem.run_bind]; rw [hr]; rfl, hw'⟩
/-- .. into the one that stands behind others. -/
theorem J.store1 {a1 : Heap} {t : TypeId} {ti : TI} {x y : Operand} {b off : Nat} {cs cl cs' : List Value} {e : TypeId} (hΓ : Fits P Γ) (hg : wantB n f l0 ⟨none, .store t x y, ty, pos, aft, g⟩ = true) (hp : Cx.ev n f x = .pointer (some ⟨b, off, none⟩)) (ht : look Γ t = some ti)
    (hv : vcells (Cx.ev n f y) = some cl) (hn : Nat.beq cl.length ti.size = true) (h1 : ones cl = true) (hcs : putE cs off cl = some cs')
    (k : J P n w0 R l0 K rest f (a1 :: [(b, .cells ⟨cs'⟩ e (0, 0))] :: L)) : J P n w0 R l0 K ((2, ⟨none, .store t x y, ty, pos, aft, g⟩) :: rest) f (a1 :: [(b, .cells ⟨cs⟩ e (0, 0))] :: L) :=
  J.perm (.swap _ _ _) (J.store0 hΓ hg hp ht hv hn h1 hcs (J.perm (.swap _ _ _) k))
theorem J.store2 {a1 a2 : Heap} {t : TypeId} {ti : TI} {x y : Operand} {b off : Nat} {cs cl cs' : List Value} {e : TypeId} (hΓ : Fits P Γ) (hg : wantB n f l0 ⟨none, .store t x y, ty, pos, aft, g⟩ = true) (hp : Cx.ev n f x = .pointer (some ⟨b, off, none⟩)) (ht : look Γ t = some ti)
    (hv : vcells (Cx.ev n f y) = some cl) (hn : Nat.beq cl.length ti.size = true) (h1 : ones cl = true) (hcs : putE cs off cl = some cs')
    (k : J P n w0 R l0 K rest f (a1 :: a2 :: [(b, .cells ⟨cs'⟩ e (0, 0))] :: L)) : J P n w0 R l0 K ((2, ⟨none, .store t x y, ty, pos, aft, g⟩) :: rest) f (a1 :: a2 :: [(b, .cells ⟨cs⟩ e (0, 0))] :: L) :=
  J.perm ((List.Perm.swap _ _ _).cons _) (J.store1 hΓ hg hp ht hv hn h1 hcs (J.perm ((List.Perm.swap _ _ _).cons _) k))

section
variable {t : TypeId} {x : Operand} {b off : Nat} {cs : List Value} {e : TypeId} {fr : Nat × Nat} {v : Value} {a1 a2 a3 a4 : Heap}
theorem J.load0 (hΓ : Fits P Γ) (hg : wantB n f l0 ⟨some d, .load t x, ty, pos, aft, g⟩ = true) (hp : Cx.ev n f x = .pointer (some ⟨b, off, none⟩)) (hv : ldEv Γ t cs off = some v)
    (k : J P n w0 R l0 K rest (upd f d v) ([(b, .cells ⟨cs⟩ e fr)] :: L)) : J P n w0 R l0 K ((κ + 1, ⟨some d, .load t x, ty, pos, aft, g⟩) :: rest) f ([(b, .cells ⟨cs⟩ e fr)] :: L) := J.load hΓ hg hp Rd.hd hv k
theorem J.load1 (hΓ : Fits P Γ) (hg : wantB n f l0 ⟨some d, .load t x, ty, pos, aft, g⟩ = true) (hp : Cx.ev n f x = .pointer (some ⟨b, off, none⟩)) (hv : ldEv Γ t cs off = some v)
    (k : J P n w0 R l0 K rest (upd f d v) (a1 :: [(b, .cells ⟨cs⟩ e fr)] :: L)) : J P n w0 R l0 K ((κ + 1, ⟨some d, .load t x, ty, pos, aft, g⟩) :: rest) f (a1 :: [(b, .cells ⟨cs⟩ e fr)] :: L) := J.load hΓ hg hp Rd.hd.tl hv k
theorem J.load2 (hΓ : Fits P Γ) (hg : wantB n f l0 ⟨some d, .load t x, ty, pos, aft, g⟩ = true) (hp : Cx.ev n f x = .pointer (some ⟨b, off, none⟩)) (hv : ldEv Γ t cs off = some v)
    (k : J P n w0 R l0 K rest (upd f d v) (a1 :: a2 :: [(b, .cells ⟨cs⟩ e fr)] :: L)) : J P n w0 R l0 K ((κ + 1, ⟨some d, .load t x, ty, pos, aft, g⟩) :: rest) f (a1 :: a2 :: [(b, .cells ⟨cs⟩ e fr)] :: L) := J.load hΓ hg hp Rd.hd.tl.tl hv k
theorem J.load3 (hΓ : Fits P Γ) (hg : wantB n f l0 ⟨some d, .load t x, ty, pos, aft, g⟩ = true) (hp : Cx.ev n f x = .pointer (some ⟨b, off, none⟩)) (hv : ldEv Γ t cs off = some v)
    (k : J P n w0 R l0 K rest (upd f d v) (a1 :: a2 :: a3 :: [(b, .cells ⟨cs⟩ e fr)] :: L)) : J P n w0 R l0 K ((κ + 1, ⟨some d, .load t x, ty, pos, aft, g⟩) :: rest) f (a1 :: a2 :: a3 :: [(b, .cells ⟨cs⟩ e fr)] :: L) := J.load hΓ hg hp Rd.hd.tl.tl.tl hv k
theorem J.load4 (hΓ : Fits P Γ) (hg : wantB n f l0 ⟨some d, .load t x, ty, pos, aft, g⟩ = true) (hp : Cx.ev n f x = .pointer (some ⟨b, off, none⟩)) (hv : ldEv Γ t cs off = some v)
    (k : J P n w0 R l0 K rest (upd f d v) (a1 :: a2 :: a3 :: a4 :: [(b, .cells ⟨cs⟩ e fr)] :: L)) : J P n w0 R l0 K ((κ + 1, ⟨some d, .load t x, ty, pos, aft, g⟩) :: rest) f (a1 :: a2 :: a3 :: a4 :: [(b, .cells ⟨cs⟩ e fr)] :: L) := J.load hΓ hg hp Rd.hd.tl.tl.tl.tl hv k
end

theorem thenK.nn {y : Code} (h : JC P n w0 R y K f L) : thenK P n w0 R y K .normal f L := h
theorem thenK.r {y : Code} (h : K .ret f L) : thenK P n w0 R y K .ret f L := h
theorem thenK.x {y : Code} {i : Nat} (h : K (.exit i) f L) : thenK P n w0 R y K (.exit i) f L := h
theorem blockK.nn {i : Nat} (h : K .normal f L) : blockK i K .normal f L := h
theorem blockK.r {i : Nat} (h : K .ret f L) : blockK i K .ret f L := h
theorem blockK.hit {i j : Nat} (hb : Nat.beq j i = true) (h : K .normal f L) : blockK i K (.exit j) f L := by simp only [blockK, hb, cond_true]; exact h
theorem blockK.miss {i j : Nat} (hb : Nat.beq j i = false) (h : K (.exit j) f L) : blockK i K (.exit j) f L := by simp only [blockK, hb, cond_false]; exact h
theorem loopK.r {ws : Nat → Bool} {f0 : Fr} {I : Nat → Fr → List Heap → Prop} {m : Nat} (h : K .ret f L) : loopK ws f0 I m K .ret f L := h
theorem loopK.x {ws : Nat → Bool} {f0 : Fr} {I : Nat → Fr → List Heap → Prop} {m i : Nat} (h : K (.exit i) f L) : loopK ws f0 I m K (.exit i) f L := h
theorem loopK.nn {ws : Nat → Bool} {f0 : Fr} {I : Nat → Fr → List Heap → Prop} {m : Nat} (m' : Nat) (hm : m' < m) (ha : Ag ws f0 f) (h : I m' f L) : loopK ws f0 I m K .normal f L := ⟨ha, m', hm, [], L, List.Perm.refl _, h⟩
theorem loopK.np {ws : Nat → Bool} {f0 : Fr} {I : Nat → Fr → List Heap → Prop} {m : Nat} (m' : Nat) (J L' : List Heap) (hm : m' < m) (ha : Ag ws f0 f) (hp : L.Perm (J ++ L')) (h : I m' f L') : loopK ws f0 I m K .normal f L := ⟨ha, m', hm, J, L', hp, h⟩
end

section
variable {P : Program} {fn : Func} {n : Nat} {w0 : World} {R : Heap} {Post : Ending → World → Prop} {f : Fr} {L : List Heap}
theorem ret1f {t : Nat} {v : Value} (hr : fn.results = #[.tmp t]) (ht : Nat.blt t n = true) (hv : frc (f t) = some v) (h : ∀ w, H w0 R L w → Post (.returned v) w) : retK P fn n w0 R Post .ret f L := ret1 hr ht (frc_eq hv) h
theorem ret2f {t u : Nat} {v x : Value} (hr : fn.results = #[.tmp t, .tmp u]) (ht : Nat.blt t n = true) (hu : Nat.blt u n = true) (hv : frc (f t) = some v) (hx : frc (f u) = some x) (h : ∀ w, H w0 R L w → Post (.returned (.tuple #[v, x])) w) : retK P fn n w0 R Post .ret f L :=
  ret2 hr ht hu (frc_eq hv) (frc_eq hx) h
theorem ret3f {t u s : Nat} {v x y : Value} (hr : fn.results = #[.tmp t, .tmp u, .tmp s]) (ht : Nat.blt t n = true) (hu : Nat.blt u n = true) (hs : Nat.blt s n = true) (hv : frc (f t) = some v) (hx : frc (f u) = some x) (hy : frc (f s) = some y)
    (h : ∀ w, H w0 R L w → Post (.returned (.tuple #[v, x, y])) w) : retK P fn n w0 R Post .ret f L := ret3 hr ht hu hs (frc_eq hv) (frc_eq hx) (frc_eq hy) h
end
theorem retB {a b : Bool} (h : a = b) : Ending.returned (.bool a) = Ending.returned (.bool b) := by rw [h]
theorem retI {k : IntKind} {a b : Int} (h : a = b) : Ending.returned (.int k a) = Ending.returned (.int k b) := by rw [h]
theorem retS {a b : ByteArray} (h : a = b) : Ending.returned (.string a) = Ending.returned (.string b) := by rw [h]
end Go.Cx
