/-
  The layer's rules for slices: read by index, made, appended to, stored into.
-/
import Derived.Test.YthnhijdfcmcnhaaCxE
namespace Go.Cx
open Go Go.RowKit
set_option linter.unusedVariables false
set_option linter.unusedSimpArgs false

/-- A slice's address and its cells: 'ts', each laid out by 'enc' in 'size' cells, to be found in the fragment h. -/
structure SlT {α : Type} (enc : α → List Value) (size : Nat) (a : Option Addr) (ts : List α) (h : Heap) : Prop where
  len : ∀ t, (enc t).length = size
  at_ : ∀ i (hi : i < ts.length), ∃ b off cs e fr, a = some ⟨b, off, none⟩ ∧ (b, .cells ⟨cs⟩ e fr) ∈ h ∧ off + (i + 1) * size ≤ cs.length ∧ (cs.drop (off + i * size)).take size = enc ts[i]

/-- A slice of the call's own. -/
structure OwT {α : Type} (enc : α → List Value) (size : Nat) (e : TypeId) (a : Option Addr) (cap : Nat) (ts : List α) (h : Heap) : Prop where
  len : ∀ t, (enc t).length = size
  row : (a = none ∧ cap = 0 ∧ ts = [] ∧ h = []) ∨ ∃ g cs, a = some ⟨g, 0, none⟩ ∧ h = [(g, .cells ⟨cs⟩ e (0, 0))] ∧ cs.length = cap * size ∧ ts.length ≤ cap ∧ cs.take (ts.length * size) = ts.flatMap enc

theorem flat_len {α : Type} {enc : α → List Value} {size : Nat} (hl : ∀ t, (enc t).length = size) (ts : List α) : (ts.flatMap enc).length = ts.length * size := by
  induction ts with
  | nil => simp
  | cons t ts ih => rw [List.flatMap_cons, List.length_append, ih, hl, List.length_cons, Nat.add_mul]; omega
theorem flat_at {α : Type} {enc : α → List Value} {size : Nat} (hl : ∀ t, (enc t).length = size) : ∀ (ts : List α) (i : Nat) (hi : i < ts.length), ((ts.flatMap enc).drop (i * size)).take size = enc ts[i]
  | t :: ts, 0, _ => by
    rw [List.flatMap_cons, Nat.zero_mul, List.drop_zero, List.getElem_cons_zero, List.take_append_of_le_length (by rw [hl]; exact Nat.le_refl _), List.take_of_length_le (by rw [hl]; exact Nat.le_refl _)]
  | t :: ts, i + 1, hi => by
    have := flat_at hl ts i (by simpa using hi)
    rw [List.flatMap_cons, List.getElem_cons_succ, ← this, Nat.add_mul, Nat.one_mul, List.drop_append, hl, List.drop_eq_nil_of_le (by rw [hl]; omega), List.nil_append]
    congr 2
    omega

theorem OwT.sl {α : Type} {enc : α → List Value} {size : Nat} {e : TypeId} {a : Option Addr} {cap : Nat} {ts : List α} {h : Heap} (ho : OwT enc size e a cap ts h) : SlT enc size a ts h := by
  refine ⟨ho.len, fun i hi => ?_⟩
  rcases ho.row with ⟨_, _, rfl, _⟩ | ⟨g, cs, rfl, rfl, h1, h2, h3⟩
  · simp at hi
  · have hi1 : (i + 1) * size ≤ ts.length * size := Nat.mul_le_mul_right _ hi
    have hi2 : ts.length * size ≤ cap * size := Nat.mul_le_mul_right _ h2
    refine ⟨g, 0, cs, e, (0, 0), rfl, by simp, by omega, ?_⟩
    rw [Nat.zero_add, ← flat_at ho.len ts i hi, ← h3, List.drop_take, List.take_take]
    congr 1
    rw [Nat.add_mul, Nat.one_mul] at hi1
    omega

theorem OwT.nil {α : Type} {enc : α → List Value} {size : Nat} {e : TypeId} (hl : ∀ t, (enc t).length = size) : OwT enc size e none 0 ([] : List α) [] := ⟨hl, .inl ⟨rfl, rfl, rfl, rfl⟩⟩

/-- The address of a part of an element. -/
def pel (a : Option Addr) (size k o : Nat) : Value := .pointer (some ((a.getD ⟨0, 0, none⟩).add (k * size + o)))

theorem Addr_add_add (x : Addr) (p q : Nat) : (x.add p).add q = x.add (p + q) := by
  unfold Addr.add
  by_cases hp : p = 0 <;> by_cases hq : q = 0 <;> simp [hp, hq, Nat.add_assoc]

section
variable {P : Program} {n : Nat} {w0 : World} {R : Heap} {l0 : List Oper} {K : Exit → Fr → List Heap → Prop} {f : Fr} {L : List Heap} {rest : List (Nat × Oper)} {κ : Nat}
variable {Γ : List (Nat × TI)} {d : Nat} {op : Op} {ty : TypeId} {pos : String} {aft : Array Edge} {g : Option (Nat × Bool)}
variable {α : Type} {enc : α → List Value} {a : Option Addr} {ts : List α} {h : Heap}

theorem idx_run (hΓ : Fits P Γ) {t e : TypeId} {s1 s2 : Nat} {z1 z2 : Option Value} {b1 b2 : Nat} {de : TypeDesc} {cap : Nat} {kk : IntKind} {i : Int} (ht : look Γ t = some ⟨.slice e, s1, z1, b1⟩) (he : look Γ e = some ⟨de, s2, z2, b2⟩)
    (hs : SlT enc s2 a ts h) {len : Nat} (hlen : ts.length = len) (h0 : 0 ≤ i) (h1 : i < len) (w : World) : (Instr.indexAt t (.slice a len cap) (.int kk i)).run P w = .ok (pel a s2 i.toNat 0) w := by
  subst hlen
  have hu := (hΓ t _ ht).1
  have hsz := sizeOf_run hΓ he w
  obtain ⟨b, off, cs, e', fr, ha, _, _, _⟩ := hs.at_ i.toNat (by omega)
  subst ha
  unfold Instr.indexAt
  simp only [asIntOf, Sem.run_bind, Sem.run_pure, Result.andThen_ok, run_underlying hu]
  rw [if_pos ⟨h0, h1⟩]
  simp only [Sem.run_bind, hsz, Result.andThen_ok]
  rfl

theorem J.idx {t e : TypeId} {s1 s2 : Nat} {z1 z2 : Option Value} {b1 b2 : Nat} {de : TypeDesc} {x ix : Operand} {len cap : Nat} {kk : IntKind} {i : Int} (hΓ : Fits P Γ) (hg : wantB n f l0 ⟨some d, .indexAddr t x ix, ty, pos, aft, g⟩ = true) (hx : Cx.ev n f x = .slice a len cap) (hi : Cx.ev n f ix = .int kk i)
    (ht : look Γ t = some ⟨.slice e, s1, z1, b1⟩) (he : look Γ e = some ⟨de, s2, z2, b2⟩) (hs : SlT enc s2 a ts h) (hlen : ts.length = len) (h0 : 0 ≤ i) (h1 : i < (len : Int))
    (k : J P n w0 R l0 K rest (upd f d (pel a s2 i.toNat 0)) L) : J P n w0 R l0 K ((κ, ⟨some d, .indexAddr t x ix, ty, pos, aft, g⟩) :: rest) f L :=
  J.p hg (fun w => by
    have := idx_run (P := P) (cap := cap) (kk := kk) hΓ ht he hs hlen h0 (by omega) w
    simp only [execOp, hx, hi, Sem.run_bind]
    rw [this]
    rfl) k
theorem J.idxN {t e : TypeId} {s1 s2 : Nat} {z1 z2 : Option Value} {b1 b2 : Nat} {de : TypeDesc} {x ix : Operand} {len cap : Nat} {kk : IntKind} {i : Nat} (hΓ : Fits P Γ) (hg : wantB n f l0 ⟨some d, .indexAddr t x ix, ty, pos, aft, g⟩ = true) (hx : Cx.ev n f x = .slice a len cap) (hi : Cx.ev n f ix = .int kk (i : Int))
    (ht : look Γ t = some ⟨.slice e, s1, z1, b1⟩) (he : look Γ e = some ⟨de, s2, z2, b2⟩) (hs : SlT enc s2 a ts h) (hlen : ts.length = len) (h1 : i < len)
    (k : J P n w0 R l0 K rest (upd f d (pel a s2 i 0)) L) : J P n w0 R l0 K ((κ, ⟨some d, .indexAddr t x ix, ty, pos, aft, g⟩) :: rest) f L :=
  J.idx hΓ hg hx hi ht he hs hlen (by omega) (by omega) (by simpa using k)

/-- A field of an element. -/
theorem J.fldP {t : TypeId} {i sz k o : Nat} {x : Operand} {fs : Array Field} {fd : Field} {s1 s2 b1 b2 : Nat} {z1 z2 : Option Value} {de : TypeDesc} (hΓ : Fits P Γ) (hg : wantB n f l0 ⟨some d, .fieldAddr t x i, ty, pos, aft, g⟩ = true) (hx : Cx.ev n f x = pel a sz k o)
    (ht : look Γ t = some ⟨.struct fs, s1, z1, b1⟩) (hf : fs[i]? = some fd) (hl : look Γ fd.type = some ⟨de, s2, z2, b2⟩) (hn : Nat.beq s2 0 = false)
    (kk : J P n w0 R l0 K rest (upd f d (pel a sz k (o + fd.offset))) L) : J P n w0 R l0 K ((κ, ⟨some d, .fieldAddr t x i, ty, pos, aft, g⟩) :: rest) f L :=
  J.p hg (fun w => by
    have hu := (hΓ t _ ht).1
    have hsz := sizeOf_run hΓ hl w
    have hne : ¬ s2 = 0 := fun e => by rw [e] at hn; cases hn
    simp only [execOp, hx, Sem.run_bind]
    unfold Instr.fieldAt pel
    simp only [Sem.run_bind, run_underlying hu, Result.andThen_ok, hf, Instr.sureAddr, Sem.run_pure]
    unfold fieldPlace
    simp only [Sem.run_bind, hsz, Result.andThen_ok]
    rw [if_neg hne]
    simp only [Sem.run_pure, Result.andThen_ok, Addr_add_add, Nat.add_assoc]) kk

theorem ldP_run (hΓ : Fits P Γ) {t : TypeId} {sz k o : Nat} {v : Value} {dflt : α} {w : World} (hs : SlT enc sz a ts h) (hw : Holds h w) (hk : k < ts.length) (hv : ldEv Γ t (enc (ts.getD k dflt)) o = some v) : (Instr.loadAt t (pel a sz k o)).run P w = .ok v w := by
  obtain ⟨b, off, cs, e', fr, ha, hm, hfit, hc⟩ := hs.at_ k hk
  rw [Nat.add_mul, Nat.one_mul] at hfit
  subst ha
  have hb := hw _ hm
  have hgd : ts.getD k dflt = ts[k] := by simp [hk]
  rw [hgd, ← hc] at hv
  have hadd : (⟨b, off, none⟩ : Addr).add (k * sz + o) = ⟨b, off + (k * sz + o), none⟩ := by unfold Addr.add; split <;> simp_all
  have hle : ((cs.drop (off + k * sz)).take sz).length = sz := by rw [hc]; exact hs.len _
  unfold pel
  simp only [Option.getD_some, hadd]
  refine ldEv_ok (cs := cs) hΓ hb ?_
  unfold ldEv at hv ⊢
  cases hlk : look Γ t with
  | none => rw [hlk] at hv; cases hv
  | some ti =>
    obtain ⟨de, s, z, by'⟩ := ti
    rw [hlk] at hv
    have agg : (bif Nat.ble (o + s) ((cs.drop (off + k * sz)).take sz).length then forceL ((((cs.drop (off + k * sz)).take sz).drop o).take s) (fun l => some (Value.agg l.toArray)) else none) = some v →
        (bif Nat.ble (off + (k * sz + o) + s) cs.length then forceL ((cs.drop (off + (k * sz + o))).take s) (fun l => some (Value.agg l.toArray)) else none) = some v := by
      intro hh
      cases hb1 : Nat.ble (o + s) ((cs.drop (off + k * sz)).take sz).length with
      | false => rw [hb1] at hh; cases hh
      | true =>
        have hb2 := Nat.le_of_ble_eq_true hb1
        rw [hle] at hb2
        rw [hb1] at hh
        simp only [cond_true, forceL_eq] at hh ⊢
        have hdd : ((cs.drop (off + k * sz)).take sz |>.drop o).take s = (cs.drop (off + (k * sz + o))).take s := by
          rw [List.drop_take, List.take_take, List.drop_drop, Nat.min_eq_left (by omega), Nat.add_assoc]
        rw [hdd] at hh
        have : Nat.ble (off + (k * sz + o) + s) cs.length = true := by
          refine Nat.ble_eq_true_of_le ?_
          omega
        rw [this]
        exact hh
    cases de
    case struct => exact agg hv
    case array => exact agg hv
    all_goals
      simp only at hv ⊢
      have : ((cs.drop (off + k * sz)).take sz)[o]? = if o < sz then cs[off + (k * sz + o)]? else none := by
        rw [List.getElem?_take]
        split
        · rw [List.getElem?_drop, Nat.add_assoc]
        · rfl
      rw [this] at hv
      split at hv <;> rename_i hc' <;> split at hc' <;> first | (rw [hc']; exact hv) | cases hv | cases hc'

theorem J.ldT {t : TypeId} {sz k o : Nat} {x : Operand} {v : Value} (dflt : α) (hΓ : Fits P Γ) (hg : wantB n f l0 ⟨some d, .load t x, ty, pos, aft, g⟩ = true) (hx : Cx.ev n f x = pel a sz k o) (hs : SlT enc sz a ts h) (hr : RdH R L h) (hk : k < ts.length) (hv : ldEv Γ t (enc (ts.getD k dflt)) o = some v)
    (kk : J P n w0 R l0 K rest (upd f d v) L) : J P n w0 R l0 K ((κ + 1, ⟨some d, .load t x, ty, pos, aft, g⟩) :: rest) f L :=
  J.q hg (fun w hw => by
    have := ldP_run (P := P) hΓ hs (hw.rdH hr) hk hv
    simp only [execOp, hx, Sem.run_bind]
    rw [this]
    rfl) kk
end
end Go.Cx
