/- TreeKnown: part 1. -/
import Derived.WalkKit
import Derived.Below
import Derived.Deep.Quiet
import Derived.Deep.LoopGhost
import Derived.LoopN
import Derived.Deep.QuietTactic
import Derived.OrdersHeld
namespace Go.Cx
open Go Go.RowKit
set_option linter.unusedVariables false
set_option linter.unusedSimpArgs false
theorem tcS : (∀ (p : Prop) [Decidable p], (decide p = true) = p) ∧ (∀ (p : Prop) [Decidable p], (decide p = false) ↔ ¬p) ∧ (∀ {α : Type} [BEq α] [LawfulBEq α] (a b : α), ((a == b) = true) ↔ a = b) ∧ (∀ {α : Type} [BEq α] [LawfulBEq α] (a b : α), ((a == b) = false) ↔ a ≠ b) ∧ (∀ {α : Type} [BEq α] [LawfulBEq α] (a b : α), ((a != b) = true) ↔ a ≠ b) ∧ (∀ {α : Type} [BEq α] [LawfulBEq α] (a b : α), ((a != b) = false) ↔ a = b) ∧ (∀ b : Bool, ((!b) = true) = (b = false)) ∧ (∀ b : Bool, ((!b) = false) = (b = true)) ∧ (∀ b : Bool, (¬(b = true)) = (b = false)) ∧ (∀ b : Bool, (¬(b = false)) = (b = true)) :=
  ⟨fun p _ => decide_eq_true_eq, fun p _ => decide_eq_false_iff_not, fun a b => beq_iff_eq, fun a b => beq_eq_false_iff_ne, fun a b => bne_iff_ne, fun a b => bne_eq_false_iff_eq, fun b => by cases b <;> simp, fun b => by cases b <;> simp, fun b => by cases b <;> simp, fun b => by cases b <;> simp⟩
theorem tF {x : Bool} (h : x = true) (g : x = false) : False := by rw [h] at g; cases g
theorem fT {x : Bool} (h : x = false) (g : x = true) : False := by rw [h] at g; cases g
abbrev Fr := Nat → Value
def upd (f : Fr) (d : Nat) (v : Value) (i : Nat) : Value := bif Nat.beq i d then v else f i
def updO (f : Fr) : Option Tmp → Value → Fr
  | some d, v => upd f d v
  | none, _ => f
def ev (n : Nat) (f : Fr) : Operand → Value
  | .tmp t => bif Nat.blt t n then f t else undef
  | .const v => v
  | .global g => .pointer (some ⟨g, 0, none⟩)
  | .func g => .func (.func g) #[] #[]
def Rep (n : Nat) (f : Fr) (a : Act) : Prop := a.tmps.size = n ∧ a.defers = [] ∧ ∀ i, i < n → a.tmps[i]? = some (f i)
theorem upd_same (f : Fr) (d : Nat) (v : Value) : upd f d v d = v := by simp [upd]
theorem upd_ne (f : Fr) {d i : Nat} (v : Value) (h : i ≠ d) : upd f d v i = f i := by
  have : Nat.beq i d = false := by
    cases hb : Nat.beq i d
    · rfl
    · exact absurd (Nat.eq_of_beq_eq_true hb) h
  simp [upd, this]
theorem Rep.put {n : Nat} {f : Fr} {a : Act} (h : Rep n f a) (d : Option Tmp) (v : Value) : Rep n (updO f d v) (a.put d v) := by
  obtain ⟨h1, h2, h3⟩ := h
  cases d with
  | none => exact ⟨h1, h2, h3⟩
  | some d =>
    refine ⟨by simp [Act.put, h1], by simp [Act.put, h2], fun i hi => ?_⟩
    by_cases hd : i = d
    · subst hd
      simp only [Act.put, updO, upd_same]
      rw [Array.getElem?_setIfInBounds_self_of_lt (by omega)]
    · simp only [Act.put, updO, upd_ne f v hd]
      rw [Array.getElem?_setIfInBounds_ne (fun e => hd e.symm)]
      exact h3 i hi
theorem Rep.eval {n : Nat} {f : Fr} {a : Act} (h : Rep n f a) : a.eval = ev n f := by
  funext x
  cases x with
  | tmp t =>
    show a.tmps.getD t undef = _
    by_cases ht : t < n
    · have : Nat.blt t n = true := by simpa using ht
      simp only [ev, this, cond_true]
      rw [Array.getD_eq_getD_getElem?, h.2.2 t ht]
      rfl
    · have : Nat.blt t n = false := by
        cases hb : Nat.blt t n
        · rfl
        · exact absurd (by simpa using hb) ht
      simp only [ev, this, cond_false]
      rw [Array.getD_eq_getD_getElem?, Array.getElem?_eq_none (show a.tmps.size ≤ t by rw [h.1]; exact Nat.le_of_not_lt ht)]
      rfl
  | _ => rfl
def dstAt : List Oper → Nat → Option Tmp
  | [], _ => none
  | o :: _, 0 => o.dst
  | _ :: l, j + 1 => dstAt l j
theorem dstAt_eq (l : List Oper) (j : Nat) : (l.toArray[j]?).bind (·.dst) = dstAt l j := by
  induction l generalizing j with
  | nil => rfl
  | cons o l ih =>
    cases j with
    | zero => rfl
    | succ j => simpa [dstAt] using ih j
def wantB (n : Nat) (f : Fr) (l : List Oper) (o : Oper) : Bool :=
  match o.guard with
  | none => true
  | some (j, b) =>
    match dstAt l j with
    | some d => bif Nat.blt d n then (match f d with | .bool c => c == b | _ => false) else false
    | none => false
theorem Rep.wanted {n : Nat} {f : Fr} {a : Act} (h : Rep n f a) (l : List Oper) (o : Oper) : Region.wanted o (yielded l.toArray a.tmps) = wantB n f l o := by
  unfold Region.wanted wantB
  cases o.guard with
  | none => rfl
  | some g =>
    obtain ⟨j, b⟩ := g
    simp only [yielded, dstAt_eq]
    cases dstAt l j with
    | none => simp
    | some d =>
      simp only [Option.bind_some]
      by_cases hd : d < n
      · have : Nat.blt d n = true := by simpa using hd
        simp only [this, cond_true, h.2.2 d hd]
        cases f d <;> simp
      · have : Nat.blt d n = false := by
          cases hb : Nat.blt d n
          · rfl
          · exact absurd (by simpa using hb) hd
        simp only [this, cond_false]
        rw [Array.getElem?_eq_none (show a.tmps.size ≤ d by rw [h.1]; exact Nat.le_of_not_lt hd)]
        simp
abbrev Heap := List (Nat × Obj)
def Holds (h : Heap) (w : World) : Prop := ∀ x, x ∈ h → w.heap[x.1]? = some x.2
structure H (w0 : World) (R : Heap) (L : List Heap) (w : World) : Prop where
  below : Below w0.heap.size w0 w
  old : Holds R w0
  own : Holds L.flatten w
  new : ∀ x, x ∈ L.flatten → w0.heap.size ≤ x.1
  nodup : (L.flatten.map (·.1)).Nodup
theorem Holds.lt {h : Heap} {w : World} (hh : Holds h w) {x : Nat × Obj} (hx : x ∈ h) : x.1 < w.heap.size := (Array.getElem?_eq_some_iff.1 (hh x hx)).1
theorem Holds.mono {h h' : Heap} {w : World} (hh : Holds h w) (hs : ∀ x, x ∈ h' → x ∈ h) : Holds h' w := fun x hx => hh x (hs x hx)
theorem Holds.below {h : Heap} {w w' : World} (hh : Holds h w) (hb : Below w.heap.size w w') : Holds h w' := fun x hx => (hb.block _ (hh.lt hx)).trans (hh x hx)
theorem Holds.append {a b : Heap} {w : World} (ha : Holds a w) (hb : Holds b w) : Holds (a ++ b) w := fun x hx => (List.mem_append.1 hx).elim (ha x) (hb x)
theorem Holds.nil (w : World) : Holds [] w := fun _ hx => by cases hx
theorem H.start {w0 : World} {R : Heap} (h : Holds R w0) : H w0 R [] w0 := ⟨Below.refl _ _, h, Holds.nil _, fun _ hx => (by cases hx), List.nodup_nil⟩
theorem H.oldNow {w0 w : World} {R : Heap} {L : List Heap} (h : H w0 R L w) : Holds R w := fun x hx => (h.below.block _ (h.old.lt hx)).trans (h.old x hx)
theorem H.drew {w0 w : World} {R : Heap} {L : List Heap} (h : H w0 R L w) (n : Nat) : H w0 R L { w with drawn := n } :=
  ⟨⟨h.below.os, h.below.tape, h.below.output, h.below.size, h.below.block⟩, h.old, h.own, h.new, h.nodup⟩
theorem H.grow {w0 w w' : World} {R : Heap} {L : List Heap} (h : H w0 R L w) (hb : Below w.heap.size w w') : H w0 R L w' :=
  ⟨h.below.trans (hb.mono h.below.size), h.old, h.own.below hb, h.new, h.nodup⟩
theorem H.perm {w0 w : World} {R : Heap} {L L' : List Heap} (h : H w0 R L w) (hp : L.Perm L') : H w0 R L' w := by
  have hf := hp.flatten
  exact ⟨h.below, h.old, h.own.mono fun x hx => (hf.mem_iff).2 hx, fun x hx => h.new x ((hf.mem_iff).2 hx), ((hf.map _).nodup_iff).1 h.nodup⟩
theorem H.drop {w0 w : World} {R h1 : Heap} {L : List Heap} (h : H w0 R (h1 :: L) w) : H w0 R L w := by
  refine ⟨h.below, h.old, h.own.mono fun x hx => List.mem_append_right _ hx, fun x hx => h.new x (List.mem_append_right _ hx), ?_⟩
  have := h.nodup
  rw [List.flatten_cons, List.map_append] at this
  exact (List.nodup_append.1 this).2.1
theorem H.fresh {w0 w w' : World} {R h1 : Heap} {L : List Heap} (h : H w0 R L w) (hb : Below w.heap.size w w') (h1h : Holds h1 w') (h1n : ∀ x, x ∈ h1 → w.heap.size ≤ x.1) (h1d : (h1.map (·.1)).Nodup) : H w0 R (h1 :: L) w' := by
  have g := h.grow hb
  refine ⟨g.below, g.old, ?_, ?_, ?_⟩
  · exact h1h.append g.own
  · intro x hx
    rcases List.mem_append.1 hx with hx | hx
    · exact Nat.le_trans h.below.size (h1n x hx)
    · exact g.new x hx
  · rw [List.flatten_cons, List.map_append]
    refine List.nodup_append.2 ⟨h1d, g.nodup, ?_⟩
    intro a ha b hb' hab
    obtain ⟨x, hx, rfl⟩ := List.mem_map.1 ha
    obtain ⟨y, hy, rfl⟩ := List.mem_map.1 hb'
    have e1 := h1n x hx
    have e2 := h.own.lt hy
    omega
theorem H.alloc {w0 w : World} {R : Heap} {L : List Heap} (h : H w0 R L w) (o : Obj) : H w0 R ([(w.heap.size, o)] :: L) (w.alloc o) := by
  refine h.fresh ((Below.refl _ _).alloc (Nat.le_refl _) o) ?_ ?_ (by simp)
  · intro x hx
    simp only [List.mem_singleton] at hx
    subst hx
    show (w.heap.push o)[w.heap.size]? = some o
    simp
  · intro x hx
    simp only [List.mem_singleton] at hx
    subst hx
    exact Nat.le_refl _
theorem H.write {w0 w w' : World} {R : Heap} {L : List Heap} {g : Nat} {o o' : Obj} (h : H w0 R ([(g, o)] :: L) w) (hos : w'.os = w.os) (htape : w'.tape = w.tape) (hout : w'.output = w.output) (hsz : w'.heap.size = w.heap.size)
    (hg : w'.heap[g]? = some o') (hne : ∀ k, k ≠ g → w'.heap[k]? = w.heap[k]?) : H w0 R ([(g, o')] :: L) w' := by
  have hgB : w0.heap.size ≤ g := h.new (g, o) (by simp)
  have hnd : (g :: L.flatten.map (·.1)).Nodup := by simpa using h.nodup
  have hng : ∀ x, x ∈ L.flatten → x.1 ≠ g := fun x hx e => (List.nodup_cons.1 hnd).1 (List.mem_map.2 ⟨x, hx, e⟩)
  refine ⟨?_, h.old, ?_, ?_, ?_⟩
  · exact h.below.trans ⟨hos, htape, hout, by omega, fun k hk => hne k (by omega)⟩
  · intro x hx
    simp only [List.flatten_cons, List.mem_append, List.mem_singleton] at hx
    rcases hx with rfl | hx
    · exact hg
    · rw [hne _ (hng x hx)]
      exact h.own x (List.mem_append_right _ hx)
  · intro x hx
    simp only [List.flatten_cons, List.mem_append, List.mem_singleton] at hx
    rcases hx with rfl | hx
    · exact hgB
    · exact h.new x (List.mem_append_right _ hx)
  · simpa using hnd
def bring {α : Type} : Nat → List α → List α
  | 0, L => L
  | k + 1, x :: L =>
    match bring k L with
    | y :: L' => y :: x :: L'
    | [] => [x]
  | _ + 1, [] => []
theorem bring_perm {α : Type} : ∀ (k : Nat) (L : List α), L.Perm (bring k L)
  | 0, _ => .refl _
  | _ + 1, [] => .refl _
  | k + 1, x :: L => by
    have ih := bring_perm k L
    show (x :: L).Perm (match bring k L with | y :: L' => y :: x :: L' | [] => [x])
    cases hb : bring k L with
    | nil => rw [hb] at ih; exact ih.cons x
    | cons y L' => rw [hb] at ih; exact (ih.cons x).trans (.swap y x L')
def Rd (R : Heap) (L : List Heap) (g : Nat) (o : Obj) : Prop := (g, o) ∈ R ∨ (g, o) ∈ L.flatten
theorem H.rd {w0 w : World} {R : Heap} {L : List Heap} (h : H w0 R L w) {g : Nat} {o : Obj} (hr : Rd R L g o) : w.heap[g]? = some o :=
  hr.elim (fun hx => h.oldNow _ hx) (fun hx => h.own _ hx)
theorem Rd.hd {R : Heap} {L : List Heap} {g : Nat} {o : Obj} : Rd R ([(g, o)] :: L) g o := .inr (by simp)
theorem Rd.tl {R h : Heap} {L : List Heap} {g : Nat} {o : Obj} (hr : Rd R L g o) : Rd R (h :: L) g o := hr.imp id fun hx => List.mem_append_right _ hx
theorem Rd.fr {R h : Heap} {L : List Heap} {g : Nat} {o : Obj} (hx : (g, o) ∈ h) : Rd R (h :: L) g o := .inr (List.mem_append_left _ hx)
theorem Rd.old {R : Heap} {L : List Heap} {g : Nat} {o : Obj} (hx : (g, o) ∈ R) : Rd R L g o := .inl hx
def RdH (R : Heap) (L : List Heap) (h : Heap) : Prop := ∀ x, x ∈ h → Rd R L x.1 x.2
theorem RdH.hd {R h : Heap} {L : List Heap} : RdH R (h :: L) h := fun _ hx => Rd.fr hx
theorem RdH.tl {R h h' : Heap} {L : List Heap} (hr : RdH R L h) : RdH R (h' :: L) h := fun x hx => (hr x hx).tl
theorem RdH.old {R h : Heap} {L : List Heap} (hs : ∀ x, x ∈ h → x ∈ R) : RdH R L h := fun x hx => Rd.old (hs x hx)
theorem RdH.append {R a b : Heap} {L : List Heap} (ha : RdH R L a) (hb : RdH R L b) : RdH R L (a ++ b) := fun x hx => (List.mem_append.1 hx).elim (ha x) (hb x)
theorem H.rdH {w0 w : World} {R h : Heap} {L : List Heap} (hH : H w0 R L w) (hr : RdH R L h) : Holds h w := fun x hx => hH.rd (hr x hx)
end Go.Cx
namespace Go.Cx
open Go Go.RowKit
set_option linter.unusedVariables false
set_option linter.unusedSimpArgs false
def QW (n : Nat) (w0 : World) (R : Heap) (K : Exit → Fr → List Heap → Prop) : Exit → Act → World → Prop
  | .outgrown, _, _ => False
  | e, a, w => ∃ f L, Rep n f a ∧ H w0 R L w ∧ K e f L
theorem QW.mono {n : Nat} {w0 : World} {R : Heap} {K K' : Exit → Fr → List Heap → Prop} (h : ∀ e f L, K e f L → K' e f L) {e : Exit} {a : Act} {w : World} (q : QW n w0 R K e a w) : QW n w0 R K' e a w := by
  cases e <;> first | exact q | (obtain ⟨f, L, ha, hw, hk⟩ := q; exact ⟨f, L, ha, hw, h _ _ _ hk⟩)
def lop (P : Program) (ops : Array Oper) (Q : Exit → Act → World → Prop) (o : Oper) (K : Act → World → Prop) (a : Act) (w : World) : Prop :=
  if Region.wanted o (yielded ops a.tmps) = true then o.wp P a w K Q else K (a.put o.dst undef) w
def LX (P : Program) (ops : Array Oper) (Q : Exit → Act → World → Prop) : List (Nat × Oper) → Act → (World → Prop) → Prop
  | [], a, C => ∀ w, C w → Q .normal a w
  | (0, o) :: l, a, C => ∃ v, Yields P ops o v a ∧ LX P ops Q l (a.put o.dst v) C
  | (1, o) :: l, a, C => ∃ v, YieldsIn P ops C o v a ∧ LX P ops Q l (a.put o.dst v) C
  | (c + 2, o) :: l, a, C => ∀ w, C w → lop P ops Q o (fun a' w' => ∃ C' : World → Prop, (c ≠ 0 → ∀ w, C' w → C w) ∧ C' w' ∧ LX P ops Q l a' C') a w
def zipK : List Nat → List Oper → List (Nat × Oper)
  | _, [] => []
  | [], o :: l => (2, o) :: zipK [] l
  | k :: ks, o :: l => (k, o) :: zipK ks l
theorem lop_mono {P : Program} {ops : Array Oper} {Q : Exit → Act → World → Prop} {o : Oper} {K K' : Act → World → Prop} {a : Act} {w : World} (h : ∀ a w, K a w → K' a w) (hh : lop P ops Q o K a w) : lop P ops Q o K' a w := by
  unfold lop at *
  split
  · rename_i hw; rw [if_pos hw] at hh; exact Oper.wp_mono h hh
  · rename_i hw; rw [if_neg hw] at hh; exact h _ _ hh
theorem LX.plain {P : Program} {ops : Array Oper} {Q : Exit → Act → World → Prop} : ∀ {l : List Oper} {a : Act} {C : World → Prop}, LX P ops Q (zipK [] l) a C → ∀ w, C w → wpList P ops Q l a w
  | [], a, C, h, w, hw => h w hw
  | o :: l, a, C, h, w, hw => by
    have h1 : lop P ops Q o (fun a' w' => ∃ C' : World → Prop, ((0 : Nat) ≠ 0 → ∀ w, C' w → C w) ∧ C' w' ∧ LX P ops Q (zipK [] l) a' C') a w := h w hw
    unfold lop at h1
    unfold wpList
    split
    · rename_i hg
      rw [if_pos hg] at h1
      exact .inl (Oper.wp_mono (fun a' w' ⟨C', _, hC, hl⟩ => LX.plain hl w' hC) h1)
    · rename_i hg
      rw [if_neg hg] at h1
      obtain ⟨C', _, hC, hl⟩ := h1
      exact LX.plain hl w hC
def J (P : Program) (n : Nat) (w0 : World) (R : Heap) (l0 : List Oper) (K : Exit → Fr → List Heap → Prop) (l : List (Nat × Oper)) (f : Fr) (L : List Heap) : Prop :=
  ∀ a, Rep n f a → LX P l0.toArray (QW n w0 R K) l a (H w0 R L)
def JC (P : Program) (n : Nat) (w0 : World) (R : Heap) (c : Code) (K : Exit → Fr → List Heap → Prop) (f : Fr) (L : List Heap) : Prop :=
  ∀ a w, Rep n f a → H w0 R L w → c.wp P (QW n w0 R K) a w
section
variable {P : Program} {n : Nat} {w0 : World} {R : Heap} {l0 : List Oper} {K : Exit → Fr → List Heap → Prop} {f : Fr} {L : List Heap} {o : Oper} {rest : List (Nat × Oper)} {κ : Nat}
theorem J.nil (h : K .normal f L) : J P n w0 R l0 K [] f L := fun _ ha _ hw => ⟨f, L, ha, hw, h⟩
theorem J.skip (hg : wantB n f l0 o = false) (k : J P n w0 R l0 K rest (updO f o.dst undef) L) : J P n w0 R l0 K ((κ, o) :: rest) f L := fun a ha => by
  have hw : Region.wanted o (yielded l0.toArray a.tmps) = false := by rw [ha.wanted, hg]
  have hk := k _ (ha.put o.dst undef)
  match κ with
  | 0 => exact ⟨undef, .inr ⟨hw, rfl⟩, hk⟩
  | 1 => exact ⟨undef, .inr ⟨hw, rfl⟩, hk⟩
  | _ + 2 => intro w hC; unfold lop; rw [if_neg (by rw [hw]; simp)]; exact ⟨_, fun _ _ h => h, hC, hk⟩
def Qt (P : Program) (n : Nat) (w0 : World) (R : Heap) (L : List Heap) (f : Fr) (o : Oper) (v : Value) : Prop :=
  ∀ w, H w0 R L w → (execOp (ev n f) o).run P w = .ok (.value v) w
theorem J.p {v : Value} (hg : wantB n f l0 o = true) (hv : ∀ w, (execOp (ev n f) o).run P w = .ok (.value v) w) (k : J P n w0 R l0 K rest (updO f o.dst v) L) : J P n w0 R l0 K ((κ, o) :: rest) f L := fun a ha => by
  have hw : Region.wanted o (yielded l0.toArray a.tmps) = true := by rw [ha.wanted, hg]
  have hk := k _ (ha.put o.dst v)
  have hr : ∀ w, (execOp a.eval o).run P w = .ok (.value v) w := fun w => by rw [ha.eval]; exact hv w
  match κ with
  | 0 => exact ⟨v, .inl ⟨hw, hr⟩, hk⟩
  | 1 => exact ⟨v, .inl ⟨hw, fun w _ => by unfold Oper.quietAt; rw [hr]; exact ⟨rfl, rfl⟩⟩, hk⟩
  | _ + 2 =>
    intro w hC
    unfold lop
    rw [if_pos hw]
    unfold Oper.wp
    rw [hr]
    exact ⟨_, fun _ _ h => h, hC, hk⟩
theorem J.q {v : Value} (hg : wantB n f l0 o = true) (hv : Qt P n w0 R L f o v) (k : J P n w0 R l0 K rest (updO f o.dst v) L) : J P n w0 R l0 K ((κ + 1, o) :: rest) f L := fun a ha => by
  have hw : Region.wanted o (yielded l0.toArray a.tmps) = true := by rw [ha.wanted, hg]
  have hk := k _ (ha.put o.dst v)
  have hr : ∀ w, H w0 R L w → (execOp a.eval o).run P w = .ok (.value v) w := fun w h => by rw [ha.eval]; exact hv w h
  match κ with
  | 0 => exact ⟨v, .inl ⟨hw, fun w hC => by unfold Oper.quietAt; rw [hr w hC]; exact ⟨rfl, rfl⟩⟩, hk⟩
  | _ + 1 =>
    intro w hC
    unfold lop
    rw [if_pos hw]
    unfold Oper.wp
    rw [hr w hC]
    exact ⟨_, fun _ _ h => h, hC, hk⟩
theorem J.v {Φ : Value → List Heap → Prop} (hg : wantB n f l0 o = true) (hv : ∀ w, H w0 R L w → ∃ v L' w', (execOp (ev n f) o).run P w = .ok (.value v) w' ∧ H w0 R L' w' ∧ Φ v L')
    (k : ∀ v L', Φ v L' → J P n w0 R l0 K rest (updO f o.dst v) L') : J P n w0 R l0 K ((2, o) :: rest) f L := fun a ha w hC => by
  have hw : Region.wanted o (yielded l0.toArray a.tmps) = true := by rw [ha.wanted, hg]
  unfold lop
  rw [if_pos hw]
  obtain ⟨v, L', w', hr, hw', hP⟩ := hv w hC
  unfold Oper.wp
  rw [ha.eval, hr]
  exact ⟨_, fun h => absurd rfl h, hw', k v L' hP _ (ha.put o.dst v)⟩
theorem J.vg {Φ : Value → Heap → Prop} (hg : wantB n f l0 o = true) (hv : ∀ w, H w0 R L w → ∃ v h w', (execOp (ev n f) o).run P w = .ok (.value v) w' ∧ H w0 R (h :: L) w' ∧ Φ v h)
    (k : ∀ v h, Φ v h → J P n w0 R l0 K rest (updO f o.dst v) (h :: L)) : J P n w0 R l0 K ((κ + 2, o) :: rest) f L := fun a ha w hC => by
  have hw : Region.wanted o (yielded l0.toArray a.tmps) = true := by rw [ha.wanted, hg]
  unfold lop
  rw [if_pos hw]
  obtain ⟨v, h, w', hr, hw', hP⟩ := hv w hC
  unfold Oper.wp
  rw [ha.eval, hr]
  exact ⟨_, fun _ _ h => h.drop, hw', k v h hP _ (ha.put o.dst v)⟩
theorem J.s {L' : List Heap} (hg : wantB n f l0 o = true) (hv : ∀ w, H w0 R L w → ∃ w', (execOp (ev n f) o).run P w = .ok .skip w' ∧ H w0 R L' w')
    (k : J P n w0 R l0 K rest (updO f o.dst undef) L') : J P n w0 R l0 K ((2, o) :: rest) f L := fun a ha w hC => by
  have hw : Region.wanted o (yielded l0.toArray a.tmps) = true := by rw [ha.wanted, hg]
  unfold lop
  rw [if_pos hw]
  obtain ⟨w', hr, hw'⟩ := hv w hC
  unfold Oper.wp
  rw [ha.eval, hr]
  exact ⟨_, fun h => absurd rfl h, hw', k _ (ha.put o.dst undef)⟩
theorem J.c {fid : FuncId} {vs : Array Value} {Φ : Value → List Heap → Prop} (hg : wantB n f l0 o = true) (he : ∀ w, (execOp (ev n f) o).run P w = .ok (.enter fid vs) w)
    (hc : ∀ w, H w0 R L w → Calls P fid vs w fun e w' => ∃ v L', e = .returned v ∧ H w0 R L' w' ∧ Φ v L')
    (k : ∀ v L', Φ v L' → J P n w0 R l0 K rest (updO f o.dst v) L') : J P n w0 R l0 K ((2, o) :: rest) f L := fun a ha w hC => by
  have hw : Region.wanted o (yielded l0.toArray a.tmps) = true := by rw [ha.wanted, hg]
  unfold lop
  rw [if_pos hw]
  unfold Oper.wp
  rw [ha.eval, he w]
  refine (hc w hC).mono ?_
  rintro e w' ⟨v, L', rfl, hw', hP⟩
  exact ⟨_, fun h => absurd rfl h, hw', k v L' hP _ (ha.put o.dst v)⟩
theorem J.c0 {fid : FuncId} {vs : Array Value} {v : Value} (hg : wantB n f l0 o = true) (he : ∀ w, (execOp (ev n f) o).run P w = .ok (.enter fid vs) w)
    (hc : ∀ w, H w0 R L w → Calls P fid vs w fun e w' => e = .returned v ∧ Below w.heap.size w w')
    (k : J P n w0 R l0 K rest (updO f o.dst v) L) : J P n w0 R l0 K ((κ + 1, o) :: rest) f L := by
  match κ with
  | 0 =>
    intro a ha
    have hw : Region.wanted o (yielded l0.toArray a.tmps) = true := by rw [ha.wanted, hg]
    refine ⟨v, .inl ⟨hw, fun w hC => ?_⟩, k _ (ha.put o.dst v)⟩
    unfold Oper.quietAt
    rw [ha.eval, he w]
    exact ⟨rfl, (hc w hC).mono fun e w' ⟨h1, h2⟩ => ⟨h1, hC.grow h2⟩⟩
  | _ + 1 =>
    intro a ha w hC
    have hw : Region.wanted o (yielded l0.toArray a.tmps) = true := by rw [ha.wanted, hg]
    unfold lop
    rw [if_pos hw]
    unfold Oper.wp
    rw [ha.eval, he w]
    refine (hc w hC).mono ?_
    rintro e w' ⟨rfl, h2⟩
    exact ⟨_, fun _ _ h => h, hC.grow h2, k _ (ha.put o.dst v)⟩
def Gives (Φ : Value → Heap → Prop) (w : World) (e : Ending) (w' : World) : Prop :=
  ∃ v h, e = .returned v ∧ Below w.heap.size w w' ∧ Holds h w' ∧ (∀ x, x ∈ h → w.heap.size ≤ x.1) ∧ (h.map (·.1)).Nodup ∧ Φ v h
theorem J.c1 {fid : FuncId} {vs : Array Value} {Φ : Value → Heap → Prop} (hg : wantB n f l0 o = true) (he : ∀ w, (execOp (ev n f) o).run P w = .ok (.enter fid vs) w)
    (hc : ∀ w, H w0 R L w → Calls P fid vs w (Gives Φ w))
    (k : ∀ v h, Φ v h → J P n w0 R l0 K rest (updO f o.dst v) (h :: L)) : J P n w0 R l0 K ((κ + 2, o) :: rest) f L := fun a ha w hC => by
  have hw : Region.wanted o (yielded l0.toArray a.tmps) = true := by rw [ha.wanted, hg]
  unfold lop
  rw [if_pos hw]
  unfold Oper.wp
  rw [ha.eval, he w]
  refine (hc w hC).mono ?_
  rintro e w' ⟨v, h, rfl, h2, h3, h4, h5, h6⟩
  exact ⟨_, fun _ _ h => h.drop, hC.fresh h2 h3 h4 h5, k v h h6 _ (ha.put o.dst v)⟩
theorem J.perm {L' : List Heap} {l : List (Nat × Oper)} (hp : L.Perm L') (k : J P n w0 R l0 K l f L') : J P n w0 R l0 K l f L := fun a ha => by
  have : H w0 R L = H w0 R L' := funext fun w => propext ⟨fun h => h.perm hp, fun h => h.perm hp.symm⟩
  rw [this]
  exact k a ha
theorem J.pin {l : List (Nat × Oper)} (i : Nat) {v : Value} (e : f i = v) (k : J P n w0 R l0 K l (upd f i v) L) : J P n w0 R l0 K l f L := by
  have : upd f i v = f := funext fun j => by
    by_cases h : j = i
    · subst h; rw [upd_same, e]
    · exact upd_ne f v h
  rw [this] at k
  exact k
end
section
variable {P : Program} {n : Nat} {w0 : World} {R : Heap} {K : Exit → Fr → List Heap → Prop} {f : Fr} {L : List Heap}
def thenK (P : Program) (n : Nat) (w0 : World) (R : Heap) (y : Code) (K : Exit → Fr → List Heap → Prop) : Exit → Fr → List Heap → Prop
  | .normal, f, L => JC P n w0 R y K f L
  | e, f, L => K e f L
theorem JC.seq {x y : Code} (h : JC P n w0 R x (thenK P n w0 R y K) f L) : JC P n w0 R (.seq x y) K f L := fun a w ha hw => by
  refine wp_seq (wp_mono (h a w ha hw) ?_)
  intro e a' w' q
  cases e <;> first | exact q | (obtain ⟨f', L', ha', hw', hk⟩ := q; first | exact hk a' w' ha' hw' | exact ⟨f', L', ha', hw', hk⟩)
theorem JC.skip (h : K .normal f L) : JC P n w0 R .skip K f L := fun _ _ ha hw => wp_skip ⟨f, L, ha, hw, h⟩
theorem JC.exit {id : Nat} (h : K (.exit id) f L) : JC P n w0 R (.exit id) K f L := fun _ _ ha hw => wp_exit ⟨f, L, ha, hw, h⟩
theorem JC.ret (h : K .ret f L) : JC P n w0 R .ret K f L := fun _ _ ha hw => wp_ret ⟨f, L, ha, hw, h⟩
theorem JC.region {id : Nat} {l : List Oper} (h : J P n w0 R l K (zipK [] l) f L) : JC P n w0 R (.region id l.toArray false) K f L := fun a w ha hw => wp_region_lit (LX.plain (h a ha) w hw)
theorem JC.cond {c : Operand} {x y : Code} {b : Bool} (hc : ev n f c = .bool b) (ht : b = true → JC P n w0 R x K f L) (hf : b = false → JC P n w0 R y K f L) : JC P n w0 R (.cond c x y) K f L := fun a w ha hw =>
  wp_cond_split (by rw [ha.eval]; exact hc) (fun hb => ht hb a w ha hw) (fun hb => hf hb a w ha hw)
theorem JC.condT {c : Operand} {x y : Code} (hc : ev n f c = .bool true) (ht : JC P n w0 R x K f L) : JC P n w0 R (.cond c x y) K f L := fun a w ha hw =>
  wp_cond_true (by rw [ha.eval]; exact hc) (ht a w ha hw)
theorem JC.condF {c : Operand} {x y : Code} (hc : ev n f c = .bool false) (ht : JC P n w0 R y K f L) : JC P n w0 R (.cond c x y) K f L := fun a w ha hw =>
  wp_cond_false (by rw [ha.eval]; exact hc) (ht a w ha hw)
def blockK (id : Nat) (K : Exit → Fr → List Heap → Prop) : Exit → Fr → List Heap → Prop
  | .exit i, f, L => bif Nat.beq i id then K .normal f L else K (.exit i) f L
  | e, f, L => K e f L
theorem JC.block {id : Nat} {c : Code} (h : JC P n w0 R c (blockK id K) f L) : JC P n w0 R (.block id c) K f L := fun a w ha hw => by
  refine wp_block (wp_mono (h a w ha hw) ?_)
  intro e a' w' q
  cases e with
  | exit i =>
    obtain ⟨f', L', ha', hw', hk⟩ := q
    simp only [Exit.inBlock]
    by_cases hi : i = id
    · subst hi
      rw [if_pos rfl]
      have : Nat.beq i i = true := by simp
      simp only [blockK, this, cond_true] at hk
      exact ⟨f', L', ha', hw', hk⟩
    · rw [if_neg hi]
      have : Nat.beq i id = false := by
        cases hb : Nat.beq i id
        · rfl
        · exact absurd (Nat.eq_of_beq_eq_true hb) hi
      simp only [blockK, this, cond_false] at hk
      exact ⟨f', L', ha', hw', hk⟩
  | _ => exact q
theorem JC.pin {c : Code} (i : Nat) {v : Value} (e : f i = v) (k : JC P n w0 R c K (upd f i v) L) : JC P n w0 R c K f L := by
  have : upd f i v = f := funext fun j => by
    by_cases h : j = i
    · subst h; rw [upd_same, e]
    · exact upd_ne f v h
  rw [this] at k
  exact k
theorem JC.perm {L' : List Heap} {c : Code} (hp : L.Perm L') (k : JC P n w0 R c K f L') : JC P n w0 R c K f L := fun a w ha hw => k a w ha (hw.perm hp)
theorem JC.mono {c : Code} {K' : Exit → Fr → List Heap → Prop} (h : JC P n w0 R c K f L) (hk : ∀ e f L, K e f L → K' e f L) : JC P n w0 R c K' f L := fun a w ha hw => wp_mono (h a w ha hw) fun _ _ _ q => q.mono hk
def Ag (ws : Nat → Bool) (f g : Fr) : Prop := ∀ i, ws i = false → g i = f i
def havoc (ws : Nat → Bool) (f g : Fr) : Fr := fun i => bif ws i then g i else f i
theorem Ag.rfl' {ws : Nat → Bool} {f : Fr} : Ag ws f f := fun _ _ => rfl
theorem Ag.hv {ws : Nat → Bool} {f g : Fr} : Ag ws f (havoc ws f g) := fun i hi => by simp [havoc, hi]
theorem Ag.upd {ws : Nat → Bool} {f g : Fr} {d : Nat} {v : Value} (hd : ws d = true) (h : Ag ws f g) : Ag ws f (upd g d v) := fun i hi => by
  rw [upd_ne g v (fun e => by rw [e, hd] at hi; cases hi)]; exact h i hi
theorem Ag.eq {ws : Nat → Bool} {f g : Fr} (h : Ag ws f g) : havoc ws f g = g := funext fun i => by
  by_cases hi : ws i = true
  · simp [havoc, hi]
  · have hi' : ws i = false := by simpa using hi
    simp [havoc, hi', h i hi']
def loopK (ws : Nat → Bool) (f0 : Fr) (I : Nat → Fr → List Heap → Prop) (m : Nat) (K : Exit → Fr → List Heap → Prop) : Exit → Fr → List Heap → Prop
  | .normal, f, L => Ag ws f0 f ∧ ∃ m', m' < m ∧ ∃ J L', L.Perm (J ++ L') ∧ I m' f L'
  | e, f, L => K e f L
theorem H.drops {w0 w : World} {R : Heap} : ∀ {J L : List Heap}, H w0 R (J ++ L) w → H w0 R L w
  | [], _, h => h
  | _ :: J, _, h => H.drops (J := J) h.drop
theorem JC.loop {c : Code} (ws : Nat → Bool) (I : Nat → Fr → List Heap → Prop) (m0 : Nat) (h0 : I m0 f L)
    (round : ∀ m g L', I m g L' → JC P n w0 R c (loopK ws f I m K) (havoc ws f g) L') : JC P n w0 R (.loop c) K f L := fun a w ha hw => by
  refine wp_loop_ghost (fun m a w => ∃ g L', Rep n g a ∧ H w0 R L' w ∧ Ag ws f g ∧ I m g L') m0 ⟨f, L, ha, hw, Ag.rfl', h0⟩ ?_
  rintro m a w ⟨g, L', ha, hw, hag, hI⟩
  have hr := round m g L' hI
  rw [hag.eq] at hr
  refine wp_mono (hr a w ha hw) ?_
  intro e a' w' q
  cases e <;> first | exact q | (obtain ⟨f', L'', ha', hw', hk⟩ := q; first | exact ⟨f', L'', ha', hw', hk⟩ | (obtain ⟨h1, m', h2, J, L3, hp, h3⟩ := hk; exact ⟨m', h2, f', L3, ha', (hw'.perm hp).drops, h1, h3⟩))
def roundK (P : Program) (n : Nat) (w0 : World) (R : Heap) (c : Code) (K : Exit → Fr → List Heap → Prop) : Nat → Exit → Fr → List Heap → Prop
  | 0, .normal, _, _ => False
  | k + 1, .normal, f, L => JC P n w0 R c (roundK P n w0 R c K k) f L
  | _, e, f, L => K e f L
theorem roundK.nn {c : Code} {k : Nat} (h : JC P n w0 R c (roundK P n w0 R c K k) f L) : roundK P n w0 R c K (k + 1) .normal f L := h
theorem roundK.x {c : Code} {k i : Nat} (h : K (.exit i) f L) : roundK P n w0 R c K k (.exit i) f L := by cases k <;> exact h
theorem rounds_of {c : Code} : ∀ (k : Nat) (f : Fr) (L : List Heap), JC P n w0 R c (roundK P n w0 R c K k) f L → ∀ a w, Rep n f a → H w0 R L w → Code.rounds P c (QW n w0 R K) (k + 1) a w
  | k, f, L, h, a, w, ha, hw => by
    refine wp_mono (h a w ha hw) ?_
    intro e a' w' q
    cases e
    case normal =>
      cases k with
      | zero => obtain ⟨f', L', _, _, hk⟩ := q; exact hk.elim
      | succ k => obtain ⟨f', L', ha', hw', hk⟩ := q; exact rounds_of k f' L' hk a' w' ha' hw'
    all_goals (cases k <;> exact q)
theorem JC.rounds {c : Code} (k : Nat) (h : JC P n w0 R c (roundK P n w0 R c K k) f L) : JC P n w0 R (.loop c) K f L := fun a w ha hw => wp_loop_rounds (k + 1) (rounds_of k f L h a w ha hw)
end
def fr0 (args : List Value) : Fr := fun i => args.getD i undef
def retK (P : Program) (fn : Func) (n : Nat) (w0 : World) (R : Heap) (Post : Ending → World → Prop) : Exit → Fr → List Heap → Prop
  | .ret, f, L | .normal, f, L => ∀ a w, Rep n f a → H w0 R L w → ∃ v, (results fn a.tmps).run P w = .ok v w ∧ Post (.returned v) w
  | _, _, _ => False
theorem fr0_rep {args : List Value} {n : Nat} (h : args.length ≤ n) : Rep n (fr0 args) { tmps := args.toArray ++ Array.replicate (n - args.toArray.size) undef, defers := [] } := by
  refine ⟨by simp; omega, rfl, fun i hi => ?_⟩
  unfold fr0
  by_cases hlt : i < args.length
  · simp [hlt, Array.getElem?_append_left]
  · rw [Array.getElem?_append_right (by simp; omega)]
    simp only [List.size_toArray]
    rw [Array.getElem?_replicate, if_pos (by omega)]
    simp [List.getElem?_eq_none (Nat.le_of_not_lt hlt)]
theorem calls_of_JC {P : Program} {fid : FuncId} {fn : Func} {c : Code} {n : Nat} {args : List Value} {w : World} {R : Heap} {Post : Ending → World → Prop}
    (hf : P.funcs[fid]? = some fn) (hn : fn.ntmps = n) (hb : fn.body = some c) (hsz : Nat.ble args.length n = true) (hR : Holds R w) (h : JC P n w R c (retK P fn n w R Post) (fr0 args) []) : Calls P fid args.toArray w Post := by
  refine calls_of_wp hf hb ?_
  rw [hn]
  refine wp_mono (h _ w (fr0_rep (Nat.le_of_ble_eq_true hsz)) (H.start hR)) ?_
  intro e a' w' q
  cases e with
  | normal =>
    obtain ⟨f', L', ha', hw', hk⟩ := q
    obtain ⟨v, h1, h2⟩ := hk a' w' ha' hw'
    exact ⟨ha'.2.1, v, h1, h2⟩
  | ret =>
    obtain ⟨f', L', ha', hw', hk⟩ := q
    obtain ⟨v, h1, h2⟩ := hk a' w' ha' hw'
    exact ⟨ha'.2.1, v, h1, h2⟩
  | exit i => obtain ⟨_, _, _, _, hk⟩ := q; exact hk.elim
  | goto i => obtain ⟨_, _, _, _, hk⟩ := q; exact hk.elim
  | panic i => obtain ⟨_, _, _, _, hk⟩ := q; exact hk.elim
  | outgrown => exact q.elim
section
variable {P : Program} {fn : Func} {n : Nat} {w0 : World} {R : Heap} {Post : Ending → World → Prop} {f : Fr} {L : List Heap}
theorem Rep.getD {a : Act} (h : Rep n f a) {t : Nat} (ht : Nat.blt t n = true) : a.tmps.getD t undef = f t := by
  have := congrFun h.eval (.tmp t)
  simpa [Act.eval, ev, ht] using this
theorem ret0 (hr : fn.results = #[]) (h : ∀ w, H w0 R L w → Post (.returned (.tuple #[])) w) : retK P fn n w0 R Post .ret f L := fun a w _ hw => ⟨_, results_none hr _ _ _, h w hw⟩
theorem ret0n (hr : fn.results = #[]) (h : ∀ w, H w0 R L w → Post (.returned (.tuple #[])) w) : retK P fn n w0 R Post .normal f L := fun a w _ hw => ⟨_, results_none hr _ _ _, h w hw⟩
theorem ret1 {t : Nat} {v : Value} (hr : fn.results = #[.tmp t]) (ht : Nat.blt t n = true) (hv : f t = v) (h : ∀ w, H w0 R L w → Post (.returned v) w) : retK P fn n w0 R Post .ret f L :=
  fun a w ha hw => ⟨_, results_tmp hr _ _ _, by rw [ha.getD ht, hv]; exact h w hw⟩
theorem ret2 {t u : Nat} {v x : Value} (hr : fn.results = #[.tmp t, .tmp u]) (ht : Nat.blt t n = true) (hu : Nat.blt u n = true) (hv : f t = v) (hx : f u = x) (h : ∀ w, H w0 R L w → Post (.returned (.tuple #[v, x])) w) : retK P fn n w0 R Post .ret f L :=
  fun a w ha hw => ⟨_, results_tmp2 hr _ _ _, by rw [ha.getD ht, hv, ha.getD hu, hx]; exact h w hw⟩
theorem ret3 {t u s : Nat} {v x y : Value} (hr : fn.results = #[.tmp t, .tmp u, .tmp s]) (ht : Nat.blt t n = true) (hu : Nat.blt u n = true) (hs : Nat.blt s n = true) (hv : f t = v) (hx : f u = x) (hy : f s = y)
    (h : ∀ w, H w0 R L w → Post (.returned (.tuple #[v, x, y])) w) : retK P fn n w0 R Post .ret f L :=
  fun a w ha hw => ⟨.tuple #[a.tmps.getD t undef, a.tmps.getD u undef, a.tmps.getD s undef], by simp [results, hr], by rw [ha.getD ht, hv, ha.getD hu, hx, ha.getD hs, hy]; exact h w hw⟩
end
end Go.Cx
namespace Go.Cx
open Go Go.RowKit
set_option linter.unusedVariables false
set_option linter.unusedSimpArgs false
structure TI where
  desc : TypeDesc
  size : Nat
  zero : Option Value
  bytes : Nat
def look : List (Nat × TI) → Nat → Option TI
  | [], _ => none
  | (k, t) :: l, i => bif Nat.beq i k then some t else look l i
def Fits (P : Program) (Γ : List (Nat × TI)) : Prop := ∀ t ti, look Γ t = some ti → P.underlying t = some ti.desc ∧ ∃ i, P.info? t = some i ∧ i.size = ti.size ∧ i.zero = ti.zero ∧ i.bytes = ti.bytes
theorem Fits.nil (P : Program) : Fits P [] := fun _ _ h => by cases h
theorem Fits.cons {P : Program} {Γ : List (Nat × TI)} {k : Nat} {x : TI} (h : Fits P Γ) (hu : P.underlying k = some x.desc) (hi : (P.info? k).map (fun i => (i.zero, i.size, i.bytes)) = some (x.zero, x.size, x.bytes)) : Fits P ((k, x) :: Γ) := by
  intro t ti ht
  unfold look at ht
  cases hb : Nat.beq t k with
  | true =>
    rw [hb] at ht
    simp only [cond_true, Option.some.injEq] at ht
    subst ht
    have := Nat.eq_of_beq_eq_true hb
    subst this
    refine ⟨hu, ?_⟩
    cases hp : P.info? t with
    | none => rw [hp] at hi; cases hi
    | some i =>
      rw [hp] at hi
      simp only [Option.map_some, Option.some.injEq, Prod.mk.injEq] at hi
      exact ⟨i, rfl, hi.2.1, hi.1, hi.2.2⟩
  | false => rw [hb] at ht; exact h t ti ht
def sameK : IntKind → IntKind → Bool
  | .i8, .i8 | .i16, .i16 | .i32, .i32 | .i64, .i64 | .u8, .u8 | .u16, .u16 | .u32, .u32 | .u64, .u64 => true
  | _, _ => false
theorem sameK_eq {a b : IntKind} (h : sameK a b = true) : a = b := by cases a <;> cases b <;> first | rfl | cases h
def frc : Value → Option Value
  | .bool b => some (.bool b)
  | .int k n => some (.int k n)
  | .string s => some (.string s)
  | .pointer a => some (.pointer a)
  | .slice a n c => some (.slice a n c)
  | .nilIface => some .nilIface
  | .map r => some (.map r)
  | .func fn x y => some (.func fn x y)
  | .agg c => some (.agg c)
  | .tuple c => some (.tuple c)
  | _ => none
theorem frc_eq {v u : Value} (h : frc v = some u) : v = u := by cases v <;> simp [frc] at h <;> first | exact h | cases h
def binEv (Γ : List (Nat × TI)) (op : BinOp) (t : TypeId) : Value → Value → Option Value
  | .int k a, .int k' b =>
    match op with
    | .add => bif sameK k k' then some (.int k (k.wrap (a + b))) else none
    | .sub => bif sameK k k' then some (.int k (k.wrap (a - b))) else none
    | .mul => bif sameK k k' then some (.int k (k.wrap (a * b))) else none
    | .eql => bif sameK k k' then some (.bool (a == b)) else none
    | .neq => bif sameK k k' then some (.bool (a != b)) else none
    | .lss => bif sameK k k' then some (.bool (decide (a < b))) else none
    | .leq => bif sameK k k' then some (.bool (decide (a ≤ b))) else none
    | .gtr => bif sameK k k' then some (.bool (decide (b < a))) else none
    | .geq => bif sameK k k' then some (.bool (decide (b ≤ a))) else none
    | _ => none
  | .string a, .string b =>
    match op with
    | .eql => some (.bool (a.toList == b.toList))
    | .neq => some (.bool !(a.toList == b.toList))
    | _ => none
  | .bool a, .bool b =>
    match look Γ t with
    | some ⟨.bool, _, _, _⟩ =>
      match op with
      | .eql => some (.bool (a == b))
      | .neq => some (.bool !(a == b))
      | _ => none
    | _ => none
  | _, _ => none
def unEv (op : UnOp) : Value → Option Value
  | .bool b => match op with | .not => some (.bool !b) | _ => none
  | .int k n => match op with | .neg => some (.int k (k.wrap (0 - n))) | _ => none
  | _ => none
def lenEv (Γ : List (Nat × TI)) (t : TypeId) : Value → Option Value
  | .string s => match look Γ t with | some ⟨.string, _, _, _⟩ => some (.int .i64 s.size) | _ => none
  | .slice _ n _ => match look Γ t with | some ⟨.slice _, _, _, _⟩ => some (.int .i64 n) | _ => none
  | _ => none
def partEv (Γ : List (Nat × TI)) (t : TypeId) (cs : List Value) (off : Nat) : Option Value :=
  match look Γ t with
  | some ⟨.struct _, s, _, _⟩ => some (.agg ((cs.drop off).take s).toArray)
  | some ⟨.array _ _, s, _, _⟩ => some (.agg ((cs.drop off).take s).toArray)
  | some _ => match cs[off]? with | some v => frc v | none => none
  | none => none
def fieldEv (Γ : List (Nat × TI)) (t : TypeId) (i : Nat) : Value → Option Value
  | .pointer (some ⟨b, o, s⟩) =>
    match look Γ t with
    | some ⟨.struct fs, _, _, _⟩ =>
      match fs[i]? with
      | some fd =>
        match look Γ fd.type with
        | some ⟨_, s', _, _⟩ => bif Nat.beq s' 0 then none else (match fd.offset with | 0 => some (.pointer (some ⟨b, o, s⟩)) | k + 1 => some (.pointer (some ⟨b, o + (k + 1), none⟩)))
        | none => none
      | none => none
    | _ => none
  | _ => none
def pureEv (Γ : List (Nat × TI)) (ρ : Operand → Value) : Op → Option Value
  | .move x => frc (ρ x)
  | .assign x => frc (ρ x)
  | .pick c a b =>
    match ρ c with
    | .bool true => frc (ρ a)
    | .bool false => frc (ρ b)
    | _ => none
  | .binOp op t x y _ => binEv Γ op t (ρ x) (ρ y)
  | .unOp op _ x => unEv op (ρ x)
  | .call ⟨.builtin .len, ⟨[x]⟩, ⟨[t]⟩⟩ => lenEv Γ t (ρ x)
  | .call ⟨.builtin .min, ⟨[x, y]⟩, _⟩ => match ρ x, ρ y with | .int k a, .int _ b => some (.int k (min a b)) | _, _ => none
  | .call ⟨.builtin .max, ⟨[x, y]⟩, _⟩ => match ρ x, ρ y with | .int k a, .int _ b => some (.int k (max a b)) | _, _ => none
  | .extract x i =>
    match ρ x with
    | .tuple ⟨vs⟩ => match vs[i]? with | some v => frc v | none => none
    | _ => none
  | .field t x i =>
    match ρ x with
    | .agg ⟨cs⟩ =>
      match look Γ t with
      | some ⟨.struct fs, _, _, _⟩ => match fs[i]? with | some fd => partEv Γ fd.type cs fd.offset | none => none
      | _ => none
    | _ => none
  | .fieldAddr t x i => fieldEv Γ t i (ρ x)
  | .makeFunc fn a b => some (.func fn (a.map ρ) (b.map ρ))
  | .nilCheck x => match ρ x with | .pointer (some a) => some (.pointer (some a)) | _ => none
  | .convert src dst x =>
    match ρ x with
    | .int _ m => match look Γ src, look Γ dst with | some _, some ⟨.int k', _, _, _⟩ => some (.int k' (k'.wrap m)) | _, _ => none
    | _ => none
  | _ => none
section
variable {P : Program} {Γ : List (Nat × TI)}
theorem binOp_eql_bool (t : TypeId) (a b : Bool) : binOp .eql t (.bool a) (.bool b) = (do pure (.bool (← Op.equal t (.bool a) (.bool b)))) := by simp only [binOp]
theorem binOp_neq_bool (t : TypeId) (a b : Bool) : binOp .neq t (.bool a) (.bool b) = (do pure (.bool (!(← Op.equal t (.bool a) (.bool b))))) := by simp only [binOp]
theorem binEv_ok (hΓ : Fits P Γ) {op : BinOp} {t : TypeId} {a b v : Value} (h : binEv Γ op t a b = some v) (x y : Operand) (w : World) : (do eqGuard op t x y a b; binOp op t a b : Sem Value).run P w = .ok v w := by
  cases a <;> cases b <;> simp only [binEv] at h <;> try (cases h; done)
  case int.int k a k' b =>
    cases op <;> simp only [] at h <;> try (cases h; done)
    all_goals
      cases hk : sameK k k' with
      | false => rw [hk] at h; cases h
      | true =>
        rw [hk] at h
        simp only [cond_true, Option.some.injEq] at h
        have := sameK_eq hk
        subst this
        subst h
        simp [eqGuard, binOp, Op.intArith, Op.intCmp, go_sem]
  case string.string a b =>
    cases op <;> simp only [] at h <;> try (cases h; done)
    all_goals
      simp only [Option.some.injEq] at h
      subst h
      simp [eqGuard, binOp, Op.stringOp, go_sem]
  case bool.bool a b =>
    cases ht : look Γ t with
    | none => rw [ht] at h; cases h
    | some ti =>
      obtain ⟨d, s, z, by'⟩ := ti
      have hu := (hΓ t _ ht).1
      rw [ht] at h
      cases d <;> simp only [] at h <;> try (cases h; done)
      cases op <;> simp only [] at h <;> try (cases h; done)
      all_goals
        simp only [Option.some.injEq] at h
        subst h
        have he : ∀ w, (Op.equal t (.bool a) (.bool b)).run P w = .ok (a == b) w := fun w => run_equal_bool w t a b hu
        simp [eqGuard, binOp_eql_bool, binOp_neq_bool, he, go_sem]
theorem unEv_ok {op : UnOp} {a v : Value} (h : unEv op a = some v) (w : World) : (Op.unary op a).run P w = .ok v w := by
  cases a <;> simp only [unEv] at h <;> try (cases h; done)
  all_goals
    cases op <;> simp only [] at h <;> try (cases h; done)
    simp only [Option.some.injEq] at h
    subst h
    simp [Op.unary, Op.intArith, go_sem]
theorem lenEv_ok (hΓ : Fits P Γ) {t ty : TypeId} {a v : Value} (h : lenEv Γ t a = some v) (w : World) : (Builtin.len_ #[t] ty #[a]).run P w = .ok v w := by
  cases a <;> simp only [lenEv] at h <;> try (cases h; done)
  all_goals
    cases ht : look Γ t with
    | none => rw [ht] at h; cases h
    | some ti =>
      obtain ⟨d, s, z, by'⟩ := ti
      have hu := (hΓ t _ ht).1
      rw [ht] at h
      cases d <;> simp only [] at h <;> try (cases h; done)
      simp only [Option.some.injEq] at h
      subst h
      simp [Builtin.len_, run_underlying hu, goInt, go_sem]
theorem isAgg_run {t : TypeId} {d : TypeDesc} (h : P.underlying t = some d) (w : World) : (isAgg t).run P w = .ok (match d with | .struct _ => true | .array _ _ => true | _ => false) w := by
  unfold isAgg
  simp only [Sem.run_bind, run_underlying h, Result.andThen]
  cases d <;> rfl
theorem partEv_ok (hΓ : Fits P Γ) {t : TypeId} {cs : List Value} {off : Nat} {v : Value} (h : partEv Γ t cs off = some v) (w : World) : (part t cs.toArray off).run P w = .ok v w := by
  unfold partEv at h
  cases ht : look Γ t with
  | none => rw [ht] at h; cases h
  | some ti =>
    obtain ⟨d, s, z, by'⟩ := ti
    obtain ⟨hu, i, hi, hs, hz, hb⟩ := hΓ t _ ht
    rw [ht] at h
    have hag := isAgg_run hu w
    have hsz : (sizeOf t).run P w = .ok s w := by simp [sizeOf, typeInfo, hi, hs, go_sem]
    unfold part
    simp only [Sem.run_bind, hag, Result.andThen]
    cases d <;> simp only [Option.some.injEq] at h ⊢
    case struct => subst h; simp [hsz, Sem.run_bind, Result.andThen, go_sem]
    case array => subst h; simp [hsz, Sem.run_bind, Result.andThen, go_sem]
    all_goals
      cases hc : cs[off]? with
      | none => rw [hc] at h; cases h
      | some u =>
        rw [hc] at h
        have := frc_eq h
        subst this
        simp [hc, go_sem]
theorem sizeOf_run (hΓ : Fits P Γ) {t : TypeId} {ti : TI} (h : look Γ t = some ti) (w : World) : (sizeOf t).run P w = .ok ti.size w := by
  obtain ⟨hu, i, hi, hs, hz, hb⟩ := hΓ t _ h
  simp [sizeOf, typeInfo, hi, hs, go_sem]
theorem fieldEv_ok (hΓ : Fits P Γ) {t : TypeId} {i : Nat} {a v : Value} (h : fieldEv Γ t i a = some v) (w : World) : (Instr.fieldAt t a i).run P w = .ok v w := by
  cases a <;> simp only [fieldEv] at h <;> try (cases h; done)
  case pointer p =>
    cases p with
    | none => cases h
    | some ad =>
      obtain ⟨b, o, s⟩ := ad
      cases ht : look Γ t with
      | none => simp only [ht] at h; cases h
      | some ti =>
        obtain ⟨d, sz, z, by'⟩ := ti
        have hu := (hΓ t _ ht).1
        simp only [ht] at h
        cases d <;> simp only [] at h <;> try (cases h; done)
        case struct fs =>
          cases hf : fs[i]? with
          | none => simp only [hf] at h; cases h
          | some fd =>
            simp only [hf] at h
            cases hl : look Γ fd.type with
            | none => simp only [hl] at h; cases h
            | some tj =>
              have hsz := sizeOf_run hΓ hl
              obtain ⟨d', s', z', b'⟩ := tj
              simp only [hl] at h
              cases hs0 : Nat.beq s' 0 with
              | true => rw [hs0] at h; cases h
              | false =>
                rw [hs0] at h
                simp only [cond_false] at h
                have hne : ¬ s' = 0 := fun e => by rw [e] at hs0; cases hs0
                have hfp : (fieldPlace ⟨b, o, s⟩ fd).run P w = .ok ((⟨b, o, s⟩ : Addr).add fd.offset) w := by
                  unfold fieldPlace
                  simp only [Sem.run_bind, hsz, Result.andThen_ok]
                  rw [if_neg (by simpa using hne)]
                  rfl
                unfold Instr.fieldAt
                simp only [Sem.run_bind, run_underlying hu, Result.andThen_ok, hf, Instr.sureAddr]
                cases ho : fd.offset with
                | zero =>
                  rw [ho] at h
                  simp only [Option.some.injEq] at h
                  subst h
                  simp only [Sem.run_pure, Result.andThen_ok]
                  rw [hfp, ho]
                  rfl
                | succ k =>
                  rw [ho] at h
                  simp only [Option.some.injEq] at h
                  subst h
                  simp only [Sem.run_pure, Result.andThen_ok]
                  rw [hfp, ho]
                  rfl
theorem pure_ok (hΓ : Fits P Γ) {ρ : Operand → Value} {o : Oper} {v : Value} (h : pureEv Γ ρ o.op = some v) (w : World) : (execOp ρ o).run P w = .ok (.value v) w := by
  obtain ⟨dst, op, ty, pos, after, guard⟩ := o
  simp only at h
  cases op <;> try (simp only [pureEv] at h; cases h; done)
  case move x => simp only [pureEv] at h; rw [← frc_eq h]; simp [execOp, go_sem]
  case assign x => simp only [pureEv] at h; rw [← frc_eq h]; simp [execOp, go_sem]
  case pick c a b =>
    simp only [pureEv] at h
    cases hc : ρ c <;> simp only [hc] at h <;> try (cases h; done)
    case bool t => cases t <;> simp only [] at h <;> rw [← frc_eq h] <;> simp [execOp, hc, asBool, go_sem]
  case binOp bo t x y u =>
    simp only [pureEv] at h
    have := binEv_ok hΓ h x y w
    simp only [execOp]
    simp only [Sem.run_bind] at this ⊢
    rw [this]
    rfl
  case unOp uo t x =>
    simp only [pureEv] at h
    have := unEv_ok (P := P) h w
    simp only [execOp, Sem.run_bind]
    rw [this]
    rfl
  case call c =>
    obtain ⟨callee, ⟨args⟩, ⟨ats⟩⟩ := c
    cases callee <;> try (simp only [pureEv] at h; cases h; done)
    case builtin b =>
      cases b <;> try (simp only [pureEv] at h; cases h; done)
      case len =>
        match args, ats, h with
        | [x], [t], h =>
          simp only [pureEv] at h
          have := lenEv_ok hΓ (ty := ty) h w
          simp [execOp, resolve, invoke, builtin, this, go_sem]
        | [], _, h => simp only [pureEv] at h; cases h
        | [_], [], h => simp only [pureEv] at h; cases h
        | [_], _ :: _ :: _, h => simp only [pureEv] at h; cases h
        | _ :: _ :: _, _, h => simp only [pureEv] at h; cases h
      case min =>
        match args, h with
        | [x, y], h =>
          simp only [pureEv] at h
          cases hx : ρ x <;> simp only [hx] at h <;> try (cases h; done)
          cases hy : ρ y <;> simp only [hy] at h <;> try (cases h; done)
          case int.int k a k' b =>
            simp only [Option.some.injEq] at h
            subst h
            have : (if b < a then b else a) = min a b := by split <;> omega
            simp [execOp, resolve, invoke, builtin, hx, hy, Builtin.min_, Builtin.min2, this, go_sem]
        | [], h => simp only [pureEv] at h; cases h
        | [_], h => simp only [pureEv] at h; cases h
        | _ :: _ :: _ :: _, h => simp only [pureEv] at h; cases h
      case max =>
        match args, h with
        | [x, y], h =>
          simp only [pureEv] at h
          cases hx : ρ x <;> simp only [hx] at h <;> try (cases h; done)
          cases hy : ρ y <;> simp only [hy] at h <;> try (cases h; done)
          case int.int k a k' b =>
            simp only [Option.some.injEq] at h
            subst h
            have : (if b > a then b else a) = max a b := by split <;> omega
            simp [execOp, resolve, invoke, builtin, hx, hy, Builtin.max_, Builtin.max2, this, go_sem]
        | [], h => simp only [pureEv] at h; cases h
        | [_], h => simp only [pureEv] at h; cases h
        | _ :: _ :: _ :: _, h => simp only [pureEv] at h; cases h
  case extract x i =>
    simp only [pureEv] at h
    cases hx : ρ x <;> simp only [hx] at h <;> try (cases h; done)
    case tuple vs =>
      obtain ⟨vs⟩ := vs
      cases hv : vs[i]? with
      | none => simp only [hv] at h; cases h
      | some u =>
        simp only [hv] at h
        rw [← frc_eq h]
        simp [execOp, hx, Instr.extract, hv, go_sem]
  case field t x i =>
    simp only [pureEv] at h
    cases hx : ρ x <;> simp only [hx] at h <;> try (cases h; done)
    case agg cs =>
      obtain ⟨cs⟩ := cs
      simp only at h
      cases ht : look Γ t with
      | none => simp only [ht] at h; cases h
      | some ti =>
        obtain ⟨d, sz, z, by'⟩ := ti
        have hu := (hΓ t _ ht).1
        simp only [ht] at h
        cases d <;> simp only [] at h <;> try (cases h; done)
        case struct fs =>
          cases hf : fs[i]? with
          | none => simp only [hf] at h; cases h
          | some fd =>
            simp only [hf] at h
            have hp := partEv_ok hΓ h w
            simp only [execOp, hx, Instr.field, Sem.run_bind, run_underlying hu, Result.andThen_ok, hf, asAgg]
            simp only [Sem.run_pure, Result.andThen_ok]
            rw [hp]
            rfl
  case fieldAddr t x i =>
    simp only [pureEv] at h
    have := fieldEv_ok hΓ h w
    simp only [execOp, Sem.run_bind]
    rw [this]
    rfl
  case makeFunc fn a b =>
    simp only [pureEv, Option.some.injEq] at h
    subst h
    simp [execOp, Instr.makeFunc, go_sem]
  case nilCheck x =>
    simp only [pureEv] at h
    cases hx : ρ x <;> simp only [hx] at h <;> try (cases h; done)
    case pointer p =>
      cases p <;> simp only [] at h <;> try (cases h; done)
      simp only [Option.some.injEq] at h
      subst h
      simp [execOp, hx, go_sem]
  case convert src dst' x =>
    simp only [pureEv] at h
    cases hx : ρ x <;> simp only [hx] at h <;> try (cases h; done)
    case int k m =>
      cases hs : look Γ src with
      | none => simp only [hs] at h; cases h
      | some ts =>
        simp only [hs] at h
        cases hd : look Γ dst' with
        | none => simp only [hd] at h; cases h
        | some td =>
          have hus := (hΓ src _ hs).1
          have hud := (hΓ dst' _ hd).1
          obtain ⟨d, sz, z, by'⟩ := td
          simp only [hd] at h
          cases d <;> simp only [] at h <;> try (cases h; done)
          case int k2 =>
            simp only [Option.some.injEq] at h
            subst h
            simp only [execOp, hx]
            have hc : (convert src dst' (.int k m)).run P w = .ok (.int k2 (k2.wrap m)) w := by
              unfold convert
              simp only [Sem.run_bind, run_underlying hus, run_underlying hud, Result.andThen_ok]
              cases ts.desc <;> rfl
            simp only [Sem.run_bind]
            rw [hc]
            rfl
end
end Go.Cx
namespace Go.Cx
open Go Go.RowKit
set_option linter.unusedVariables false
set_option linter.unusedSimpArgs false
def forceL {β : Type} : List Value → (List Value → Option β) → Option β
  | [], k => k []
  | x :: l, k => forceL l fun l' => k (x :: l')
theorem forceL_eq {β : Type} (l : List Value) (k : List Value → Option β) : forceL l k = k l := by
  induction l generalizing k with
  | nil => rfl
  | cons x l ih => simp only [forceL]; rw [ih]
def ldEv (Γ : List (Nat × TI)) (t : TypeId) (cs : List Value) (off : Nat) : Option Value :=
  match look Γ t with
  | some ⟨.struct _, s, _, _⟩ => bif Nat.ble (off + s) cs.length then forceL ((cs.drop off).take s) (fun l => some (.agg l.toArray)) else none
  | some ⟨.array _ _, s, _, _⟩ => bif Nat.ble (off + s) cs.length then forceL ((cs.drop off).take s) (fun l => some (.agg l.toArray)) else none
  | some _ => match cs[off]? with | some v => frc v | none => none
  | none => none
def vcells : Value → Option (List Value)
  | .agg ⟨cs⟩ => some cs
  | .bool b => some [.bool b]
  | .int k n => some [.int k n]
  | .string s => some [.string s]
  | .pointer a => some [.pointer a]
  | .slice a n c => some [.slice a n c]
  | .map r => some [.map r]
  | .func fn x y => some [.func fn x y]
  | .nilFunc => some [.nilFunc]
  | _ => none
theorem vcells_eq {v : Value} {cl : List Value} (h : vcells v = some cl) : v.cells = cl.toArray := by
  cases v <;> simp [vcells] at h <;> try (subst h; rfl)
def ones : List Value → Bool
  | [] => true
  | .agg _ :: _ => false
  | .tuple _ :: _ => false
  | _ :: l => ones l
theorem ones_ok {l : List Value} (h : ones l = true) : ∀ v ∈ l, v.oneCell' = true := by
  induction l with
  | nil => intro v hv; cases hv
  | cons x l ih =>
    intro v hv
    cases x <;> simp only [ones] at h <;> first | (cases h; done) | (rcases List.mem_cons.1 hv with hv | hv <;> first | (subst hv; rfl) | exact ih h v hv)
def putL : List Value → Nat → List Value → List Value
  | [], _, _ => []
  | c :: cs, k + 1, l => c :: putL cs k l
  | c :: cs, 0, [] => c :: cs
  | c :: cs, 0, x :: l => x :: putL cs 0 l
theorem putL_nil (cs : List Value) (k : Nat) : putL cs k [] = cs := by
  induction cs generalizing k with
  | nil => rfl
  | cons c cs ih => cases k with
    | zero => rfl
    | succ k => simp only [putL]; rw [ih]
theorem putL_length (cs : List Value) (k : Nat) (l : List Value) : (putL cs k l).length = cs.length := by
  induction cs generalizing k l with
  | nil => rfl
  | cons c cs ih =>
    cases k with
    | succ k => simp only [putL, List.length_cons, ih]
    | zero => cases l with
      | nil => rfl
      | cons x l => simp only [putL, List.length_cons, ih]
theorem putL_eq (cs : List Value) (k : Nat) (l : List Value) (h : k + l.length ≤ cs.length) : putL cs k l = cs.take k ++ l ++ cs.drop (k + l.length) := by
  induction cs generalizing k l with
  | nil =>
    simp at h
    obtain ⟨rfl, rfl⟩ := h
    rfl
  | cons c cs ih =>
    cases k with
    | succ k =>
      simp only [putL, List.take_succ_cons, List.cons_append]
      rw [ih k l (by simp at h; omega)]
      rw [show k + 1 + l.length = (k + l.length) + 1 by omega, List.drop_succ_cons]
    | zero =>
      cases l with
      | nil => simp [putL]
      | cons x l =>
        simp only [putL, List.take_zero, List.nil_append, List.cons_append]
        rw [ih 0 l (by simp at h ⊢; omega)]
        simp
def putE (cs : List Value) (k : Nat) (l : List Value) : Option (List Value) := bif Nat.ble (k + l.length) cs.length then forceL (putL cs k l) some else none
section
variable {P : Program} {n : Nat} {w0 : World} {R : Heap} {l0 : List Oper} {K : Exit → Fr → List Heap → Prop} {f : Fr} {L : List Heap} {rest : List (Nat × Oper)} {κ : Nat}
variable {Γ : List (Nat × TI)} {d : Nat} {op : Op} {ty : TypeId} {pos : String} {aft : Array Edge} {g : Option (Nat × Bool)}
theorem J.ev {v : Value} (hΓ : Fits P Γ) (hg : wantB n f l0 ⟨some d, op, ty, pos, aft, g⟩ = true) (h : pureEv Γ (ev n f) op = some v) (k : J P n w0 R l0 K rest (upd f d v) L) : J P n w0 R l0 K ((κ, ⟨some d, op, ty, pos, aft, g⟩) :: rest) f L :=
  J.p hg (fun w => pure_ok hΓ h w) k
theorem J.skd (hg : wantB n f l0 ⟨some d, op, ty, pos, aft, g⟩ = false) (k : J P n w0 R l0 K rest (upd f d undef) L) : J P n w0 R l0 K ((κ, ⟨some d, op, ty, pos, aft, g⟩) :: rest) f L :=
  J.skip hg k
theorem J.case {l : List (Nat × Oper)} (i : Nat) {c : Bool} (hc : f i = .bool c) (ht : c = true → J P n w0 R l0 K l (upd f i (.bool true)) L) (hf : c = false → J P n w0 R l0 K l (upd f i (.bool false)) L) : J P n w0 R l0 K l f L := by
  cases c with
  | true => exact J.pin i hc (ht rfl)
  | false => exact J.pin i hc (hf rfl)
theorem J.gc {dst : Option Tmp} {j i : Nat} {b0 c : Bool} (hd : dstAt l0 j = some i) (hc : f i = .bool c)
    (ht : c = true → J P n w0 R l0 K ((κ, ⟨dst, op, ty, pos, aft, some (j, b0)⟩) :: rest) (upd f i (.bool true)) L) (hf : c = false → J P n w0 R l0 K ((κ, ⟨dst, op, ty, pos, aft, some (j, b0)⟩) :: rest) (upd f i (.bool false)) L) :
    J P n w0 R l0 K ((κ, ⟨dst, op, ty, pos, aft, some (j, b0)⟩) :: rest) f L := J.case i hc ht hf
theorem ldEv_ok (hΓ : Fits P Γ) {t : TypeId} {cs : List Value} {off b : Nat} {v : Value} {e : TypeId} {fr : Nat × Nat} {w : World} (hw : w.heap[b]? = some (.cells cs.toArray e fr)) (h : ldEv Γ t cs off = some v) : (Instr.loadAt t (.pointer (some ⟨b, off, none⟩))).run P w = .ok v w := by
  have hcell : ∀ j, w.cell? ⟨b, j, none⟩ = cs[j]? := fun j => by rw [cell_of_row w b j cs.toArray e fr hw]; simp
  have hadd : ∀ j, (⟨b, off, none⟩ : Addr).add j = ⟨b, off + j, none⟩ := fun j => by unfold Addr.add; split <;> simp_all
  unfold ldEv at h
  cases ht : look Γ t with
  | none => rw [ht] at h; cases h
  | some ti =>
    have hu := (hΓ t _ ht).1
    have hsz := sizeOf_run hΓ ht w
    have hag := isAgg_run hu w
    obtain ⟨de, s, z, by'⟩ := ti
    rw [ht] at h
    unfold Instr.loadAt Instr.sureAddr
    simp only [Sem.run_bind, Sem.run_pure, Result.andThen_ok]
    unfold loadVar
    simp only [Sem.run_bind, hag, Result.andThen_ok]
    have agg : ∀ (hb : (bif Nat.ble (off + s) cs.length then forceL ((cs.drop off).take s) (fun l => some (Value.agg l.toArray)) else none) = some v),
        ((sizeOf t).run P w).andThen (fun a w' => ((loadCells ⟨b, off, none⟩ a).run P w').andThen fun a w' => (pure (Value.agg a) : Sem Value).run P w') = .ok v w := by
      intro hb
      cases hle : Nat.ble (off + s) cs.length with
      | false => rw [hle] at hb; cases hb
      | true =>
        rw [hle] at hb
        simp only [cond_true, forceL_eq, Option.some.injEq] at hb
        have hle' := Nat.le_of_ble_eq_true hle
        have hl : ((cs.drop off).take s).length = s := by simp; omega
        have := run_loadCells_list (P := P) w ⟨b, off, none⟩ ((cs.drop off).take s) (fun j x hj => by
          rw [hadd, hcell]
          rw [List.getElem?_take] at hj
          split at hj
          · rw [List.getElem?_drop] at hj; exact hj
          · cases hj)
        rw [hl] at this
        rw [hsz]
        simp only [Result.andThen_ok]
        rw [this]
        simp only [Result.andThen_ok, Sem.run_pure]
        rw [hb]
    cases de
    case struct fs => simp only [if_true, Sem.run_bind]; exact agg h
    case array m e' => simp only [if_true, Sem.run_bind]; exact agg h
    all_goals
      simp only at h
      cases hc : cs[off]? with
      | none => rw [hc] at h; cases h
      | some u =>
        rw [hc] at h
        have := frc_eq h
        subst this
        simp [run_load, hcell, hc, go_sem]
theorem Qt.load {t : TypeId} {x : Operand} {dst : Option Tmp} {b off : Nat} {cs : List Value} {e : TypeId} {fr : Nat × Nat} {v : Value} (hΓ : Fits P Γ) (hp : Cx.ev n f x = .pointer (some ⟨b, off, none⟩)) (hr : Rd R L b (.cells ⟨cs⟩ e fr)) (hv : ldEv Γ t cs off = some v) :
    Qt P n w0 R L f ⟨dst, .load t x, ty, pos, aft, g⟩ v := fun w hw => by
  have := ldEv_ok (P := P) hΓ (hw.rd hr) hv
  simp only [execOp, hp, Sem.run_bind]
  rw [this]
  rfl
theorem J.load {t : TypeId} {x : Operand} {b off : Nat} {cs : List Value} {e : TypeId} {fr : Nat × Nat} {v : Value} (hΓ : Fits P Γ) (hg : wantB n f l0 ⟨some d, .load t x, ty, pos, aft, g⟩ = true) (hp : Cx.ev n f x = .pointer (some ⟨b, off, none⟩)) (hr : Rd R L b (.cells ⟨cs⟩ e fr)) (hv : ldEv Γ t cs off = some v)
    (k : J P n w0 R l0 K rest (upd f d v) L) : J P n w0 R l0 K ((κ + 1, ⟨some d, .load t x, ty, pos, aft, g⟩) :: rest) f L := J.q hg (Qt.load hΓ hp hr hv) k
theorem J.box {t : TypeId} {x : Operand} {cl : List Value} (hg : wantB n f l0 ⟨some d, .box t x, ty, pos, aft, g⟩ = true) (hc : vcells (Cx.ev n f x) = some cl)
    (k : ∀ b, J P n w0 R l0 K rest (upd f d (.pointer (some ⟨b, 0, none⟩))) ([(b, .cells ⟨cl⟩ t (0, 0))] :: L)) : J P n w0 R l0 K ((κ + 2, ⟨some d, .box t x, ty, pos, aft, g⟩) :: rest) f L :=
  J.vg (Φ := fun v h => ∃ b, v = .pointer (some ⟨b, 0, none⟩) ∧ h = [(b, .cells ⟨cl⟩ t (0, 0))]) hg
    (fun w hw => ⟨.pointer (some ⟨w.heap.size, 0, none⟩), _, _, by simp only [execOp, Instr.box, newVar, newRow, vcells_eq hc]; rfl, hw.alloc _, w.heap.size, rfl, rfl⟩)
    (fun v L' ⟨b, h1, h2⟩ => by subst h1; subst h2; exact k b)
theorem J.alloc {t : TypeId} {ti : TI} {z : Value} {cl : List Value} (hΓ : Fits P Γ) (hg : wantB n f l0 ⟨some d, .alloc t, ty, pos, aft, g⟩ = true) (ht : look Γ t = some ti) (hz : ti.zero = some z) (hc : vcells z = some cl)
    (k : ∀ b, J P n w0 R l0 K rest (upd f d (.pointer (some ⟨b, 0, none⟩))) ([(b, .cells ⟨cl⟩ t (0, 0))] :: L)) : J P n w0 R l0 K ((κ + 2, ⟨some d, .alloc t, ty, pos, aft, g⟩) :: rest) f L := by
  obtain ⟨hu, i, hi, hs, hzz, hb⟩ := hΓ t _ ht
  have hzr : ∀ w, (zeroValue t).run P w = .ok z w := fun w => by simp [zeroValue, typeInfo, hi, hzz, hz, go_sem]
  exact J.vg (Φ := fun v h => ∃ b, v = .pointer (some ⟨b, 0, none⟩) ∧ h = [(b, .cells ⟨cl⟩ t (0, 0))]) hg
    (fun w hw => ⟨.pointer (some ⟨w.heap.size, 0, none⟩), _, _, by simp only [execOp, Instr.alloc, Sem.run_bind, hzr, Result.andThen_ok, newVar, newRow, vcells_eq hc]; rfl, hw.alloc _, w.heap.size, rfl, rfl⟩)
    (fun v L' ⟨b, h1, h2⟩ => by subst h1; subst h2; exact k b)
theorem store_ok (hΓ : Fits P Γ) {t : TypeId} {ti : TI} {b off : Nat} {cs cl cs' : List Value} {e : TypeId} {v : Value} {w : World} (ht : look Γ t = some ti) (hv : vcells v = some cl) (hn : Nat.beq cl.length ti.size = true) (h1 : ones cl = true) (hp : off + cl.length ≤ cs.length) (hcs : putL cs off cl = cs')
    (hw : H w0 R ([(b, .cells ⟨cs⟩ e (0, 0))] :: L) w) : ∃ w', (Instr.storeAt t (.pointer (some ⟨b, off, none⟩)) v).run P w = .ok () w' ∧ H w0 R ([(b, .cells ⟨cs'⟩ e (0, 0))] :: L) w' := by
  have hb : w.heap[b]? = some (.cells ⟨cs⟩ e (0, 0)) := hw.own (b, _) (by simp)
  have hsz := sizeOf_run hΓ ht w
  have hst := run_storeCells_at P b off e cl 0 ⟨cs⟩ w hb (by simpa using hp) (ones_ok h1)
  refine ⟨w.setRow b (cs.take off ++ cl ++ cs.drop (off + cl.length)).toArray, ?_, ?_⟩
  · unfold Instr.storeAt Instr.sureAddr
    simp only [Sem.run_bind, Sem.run_pure, Result.andThen_ok]
    unfold storeVar
    simp only [Sem.run_bind, hsz, Result.andThen_ok, vcells_eq hv]
    rw [if_neg (by simp; exact Nat.eq_of_beq_eq_true hn)]
    simpa using hst
  · refine hw.write rfl rfl rfl (by simp) (o' := .cells ⟨cs'⟩ e (0, 0)) ?_ (fun k hk => setRow_other _ _ _ _ hk)
    rw [setRow_heap w b _ _ e _ hb, ← hcs, putL_eq cs off cl hp]
theorem J.store0 {t : TypeId} {ti : TI} {x y : Operand} {b off : Nat} {cs cl cs' : List Value} {e : TypeId} (hΓ : Fits P Γ) (hg : wantB n f l0 ⟨none, .store t x y, ty, pos, aft, g⟩ = true) (hp : Cx.ev n f x = .pointer (some ⟨b, off, none⟩)) (ht : look Γ t = some ti)
    (hv : vcells (Cx.ev n f y) = some cl) (hn : Nat.beq cl.length ti.size = true) (h1 : ones cl = true) (hcs : putE cs off cl = some cs')
    (k : J P n w0 R l0 K rest f ([(b, .cells ⟨cs'⟩ e (0, 0))] :: L)) : J P n w0 R l0 K ((2, ⟨none, .store t x y, ty, pos, aft, g⟩) :: rest) f ([(b, .cells ⟨cs⟩ e (0, 0))] :: L) := by
  unfold putE at hcs
  cases hle : Nat.ble (off + cl.length) cs.length with
  | false => rw [hle] at hcs; cases hcs
  | true =>
    rw [hle] at hcs
    simp only [cond_true, forceL_eq, Option.some.injEq] at hcs
    refine J.s hg (fun w hw => ?_) k
    obtain ⟨w', hr, hw'⟩ := store_ok hΓ ht hv hn h1 (Nat.le_of_ble_eq_true hle) hcs hw
    exact ⟨w', by simp only [execOp, hp, Sem.run_bind]; rw [hr]; rfl, hw'⟩
theorem J.store1 {a1 : Heap} {t : TypeId} {ti : TI} {x y : Operand} {b off : Nat} {cs cl cs' : List Value} {e : TypeId} (hΓ : Fits P Γ) (hg : wantB n f l0 ⟨none, .store t x y, ty, pos, aft, g⟩ = true) (hp : Cx.ev n f x = .pointer (some ⟨b, off, none⟩)) (ht : look Γ t = some ti)
    (hv : vcells (Cx.ev n f y) = some cl) (hn : Nat.beq cl.length ti.size = true) (h1 : ones cl = true) (hcs : putE cs off cl = some cs')
    (k : J P n w0 R l0 K rest f (a1 :: [(b, .cells ⟨cs'⟩ e (0, 0))] :: L)) : J P n w0 R l0 K ((2, ⟨none, .store t x y, ty, pos, aft, g⟩) :: rest) f (a1 :: [(b, .cells ⟨cs⟩ e (0, 0))] :: L) :=
  J.perm (.swap _ _ _) (J.store0 hΓ hg hp ht hv hn h1 hcs (J.perm (.swap _ _ _) k))
theorem J.store2 {a1 a2 : Heap} {t : TypeId} {ti : TI} {x y : Operand} {b off : Nat} {cs cl cs' : List Value} {e : TypeId} (hΓ : Fits P Γ) (hg : wantB n f l0 ⟨none, .store t x y, ty, pos, aft, g⟩ = true) (hp : Cx.ev n f x = .pointer (some ⟨b, off, none⟩)) (ht : look Γ t = some ti)
    (hv : vcells (Cx.ev n f y) = some cl) (hn : Nat.beq cl.length ti.size = true) (h1 : ones cl = true) (hcs : putE cs off cl = some cs')
    (k : J P n w0 R l0 K rest f (a1 :: a2 :: [(b, .cells ⟨cs'⟩ e (0, 0))] :: L)) : J P n w0 R l0 K ((2, ⟨none, .store t x y, ty, pos, aft, g⟩) :: rest) f (a1 :: a2 :: [(b, .cells ⟨cs⟩ e (0, 0))] :: L) :=
  J.perm ((List.Perm.swap _ _ _).cons _) (J.store1 hΓ hg hp ht hv hn h1 hcs (J.perm ((List.Perm.swap _ _ _).cons _) k))
section
variable {t : TypeId} {x : Operand} {b off : Nat} {cs : List Value} {e : TypeId} {fr : Nat × Nat} {v : Value} {a1 a2 a3 a4 : Heap}
theorem J.load0 (hΓ : Fits P Γ) (hg : wantB n f l0 ⟨some d, .load t x, ty, pos, aft, g⟩ = true) (hp : Cx.ev n f x = .pointer (some ⟨b, off, none⟩)) (hv : ldEv Γ t cs off = some v)
    (k : J P n w0 R l0 K rest (upd f d v) ([(b, .cells ⟨cs⟩ e fr)] :: L)) : J P n w0 R l0 K ((κ + 1, ⟨some d, .load t x, ty, pos, aft, g⟩) :: rest) f ([(b, .cells ⟨cs⟩ e fr)] :: L) := J.load hΓ hg hp Rd.hd hv k
theorem J.load1 (hΓ : Fits P Γ) (hg : wantB n f l0 ⟨some d, .load t x, ty, pos, aft, g⟩ = true) (hp : Cx.ev n f x = .pointer (some ⟨b, off, none⟩)) (hv : ldEv Γ t cs off = some v)
    (k : J P n w0 R l0 K rest (upd f d v) (a1 :: [(b, .cells ⟨cs⟩ e fr)] :: L)) : J P n w0 R l0 K ((κ + 1, ⟨some d, .load t x, ty, pos, aft, g⟩) :: rest) f (a1 :: [(b, .cells ⟨cs⟩ e fr)] :: L) := J.load hΓ hg hp Rd.hd.tl hv k
theorem J.load2 (hΓ : Fits P Γ) (hg : wantB n f l0 ⟨some d, .load t x, ty, pos, aft, g⟩ = true) (hp : Cx.ev n f x = .pointer (some ⟨b, off, none⟩)) (hv : ldEv Γ t cs off = some v)
    (k : J P n w0 R l0 K rest (upd f d v) (a1 :: a2 :: [(b, .cells ⟨cs⟩ e fr)] :: L)) : J P n w0 R l0 K ((κ + 1, ⟨some d, .load t x, ty, pos, aft, g⟩) :: rest) f (a1 :: a2 :: [(b, .cells ⟨cs⟩ e fr)] :: L) := J.load hΓ hg hp Rd.hd.tl.tl hv k
theorem J.load3 (hΓ : Fits P Γ) (hg : wantB n f l0 ⟨some d, .load t x, ty, pos, aft, g⟩ = true) (hp : Cx.ev n f x = .pointer (some ⟨b, off, none⟩)) (hv : ldEv Γ t cs off = some v)
    (k : J P n w0 R l0 K rest (upd f d v) (a1 :: a2 :: a3 :: [(b, .cells ⟨cs⟩ e fr)] :: L)) : J P n w0 R l0 K ((κ + 1, ⟨some d, .load t x, ty, pos, aft, g⟩) :: rest) f (a1 :: a2 :: a3 :: [(b, .cells ⟨cs⟩ e fr)] :: L) := J.load hΓ hg hp Rd.hd.tl.tl.tl hv k
theorem J.load4 (hΓ : Fits P Γ) (hg : wantB n f l0 ⟨some d, .load t x, ty, pos, aft, g⟩ = true) (hp : Cx.ev n f x = .pointer (some ⟨b, off, none⟩)) (hv : ldEv Γ t cs off = some v)
    (k : J P n w0 R l0 K rest (upd f d v) (a1 :: a2 :: a3 :: a4 :: [(b, .cells ⟨cs⟩ e fr)] :: L)) : J P n w0 R l0 K ((κ + 1, ⟨some d, .load t x, ty, pos, aft, g⟩) :: rest) f (a1 :: a2 :: a3 :: a4 :: [(b, .cells ⟨cs⟩ e fr)] :: L) := J.load hΓ hg hp Rd.hd.tl.tl.tl.tl hv k
end
theorem thenK.nn {y : Code} (h : JC P n w0 R y K f L) : thenK P n w0 R y K .normal f L := h
theorem thenK.r {y : Code} (h : K .ret f L) : thenK P n w0 R y K .ret f L := h
theorem thenK.x {y : Code} {i : Nat} (h : K (.exit i) f L) : thenK P n w0 R y K (.exit i) f L := h
theorem blockK.nn {i : Nat} (h : K .normal f L) : blockK i K .normal f L := h
theorem blockK.r {i : Nat} (h : K .ret f L) : blockK i K .ret f L := h
theorem blockK.hit {i j : Nat} (hb : Nat.beq j i = true) (h : K .normal f L) : blockK i K (.exit j) f L := by simp only [blockK, hb, cond_true]; exact h
theorem loopK.r {ws : Nat → Bool} {f0 : Fr} {I : Nat → Fr → List Heap → Prop} {m : Nat} (h : K .ret f L) : loopK ws f0 I m K .ret f L := h
theorem loopK.x {ws : Nat → Bool} {f0 : Fr} {I : Nat → Fr → List Heap → Prop} {m i : Nat} (h : K (.exit i) f L) : loopK ws f0 I m K (.exit i) f L := h
theorem loopK.nn {ws : Nat → Bool} {f0 : Fr} {I : Nat → Fr → List Heap → Prop} {m : Nat} (m' : Nat) (hm : m' < m) (ha : Ag ws f0 f) (h : I m' f L) : loopK ws f0 I m K .normal f L := ⟨ha, m', hm, [], L, List.Perm.refl _, h⟩
theorem loopK.np {ws : Nat → Bool} {f0 : Fr} {I : Nat → Fr → List Heap → Prop} {m : Nat} (m' : Nat) (J L' : List Heap) (hm : m' < m) (ha : Ag ws f0 f) (hp : L.Perm (J ++ L')) (h : I m' f L') : loopK ws f0 I m K .normal f L := ⟨ha, m', hm, J, L', hp, h⟩
end
section
variable {P : Program} {fn : Func} {n : Nat} {w0 : World} {R : Heap} {Post : Ending → World → Prop} {f : Fr} {L : List Heap}
theorem ret1f {t : Nat} {v : Value} (hr : fn.results = #[.tmp t]) (ht : Nat.blt t n = true) (hv : frc (f t) = some v) (h : ∀ w, H w0 R L w → Post (.returned v) w) : retK P fn n w0 R Post .ret f L := ret1 hr ht (frc_eq hv) h
theorem ret2f {t u : Nat} {v x : Value} (hr : fn.results = #[.tmp t, .tmp u]) (ht : Nat.blt t n = true) (hu : Nat.blt u n = true) (hv : frc (f t) = some v) (hx : frc (f u) = some x) (h : ∀ w, H w0 R L w → Post (.returned (.tuple #[v, x])) w) : retK P fn n w0 R Post .ret f L :=
  ret2 hr ht hu (frc_eq hv) (frc_eq hx) h
theorem ret3f {t u s : Nat} {v x y : Value} (hr : fn.results = #[.tmp t, .tmp u, .tmp s]) (ht : Nat.blt t n = true) (hu : Nat.blt u n = true) (hs : Nat.blt s n = true) (hv : frc (f t) = some v) (hx : frc (f u) = some x) (hy : frc (f s) = some y)
    (h : ∀ w, H w0 R L w → Post (.returned (.tuple #[v, x, y])) w) : retK P fn n w0 R Post .ret f L := ret3 hr ht hu hs (frc_eq hv) (frc_eq hx) (frc_eq hy) h
end
theorem retB {a b : Bool} (h : a = b) : Ending.returned (.bool a) = Ending.returned (.bool b) := by rw [h]
theorem retI {k : IntKind} {a b : Int} (h : a = b) : Ending.returned (.int k a) = Ending.returned (.int k b) := by rw [h]
theorem retS {a b : ByteArray} (h : a = b) : Ending.returned (.string a) = Ending.returned (.string b) := by rw [h]
end Go.Cx
namespace Go.Cx
open Go Go.RowKit
set_option linter.unusedVariables false
set_option linter.unusedSimpArgs false
def Entr (P : Program) (fid : FuncId) : Prop := ∀ (vs : Array Value) (w : World), (callFunc fid vs).run P w = .ok (.enter fid vs) w
theorem Entr.of {P : Program} {fid : FuncId} {fn : Func} (hf : P.funcs[fid]? = some fn) (hn : (fn.name == "runtime.NumGoroutine") = false) (hb : fn.body.isNone = false) : Entr P fid := fun vs w => by
  have hp : (program : Sem Program).run P w = .ok P w := rfl
  unfold callFunc
  simp only [Sem.run_bind, hp, Result.andThen_ok, hf, hn, hb, if_false, Bool.false_eq_true]
  rfl
def argsEv (ρ : Operand → Value) : List Operand → Option (List Value)
  | [] => some []
  | x :: l => match frc (ρ x), argsEv ρ l with | some v, some vs => some (v :: vs) | _, _ => none
theorem argsEv_eq {ρ : Operand → Value} : ∀ {l : List Operand} {vs : List Value}, argsEv ρ l = some vs → l.map ρ = vs
  | [], _, h => by simp only [argsEv, Option.some.injEq] at h; subst h; rfl
  | x :: l, vs, h => by
    simp only [argsEv] at h
    cases hx : frc (ρ x) with
    | none => rw [hx] at h; cases h
    | some v =>
      cases hl : argsEv ρ l with
      | none => rw [hx, hl] at h; cases h
      | some us =>
        rw [hx, hl] at h
        simp only [Option.some.injEq] at h
        subst h
        rw [List.map_cons, frc_eq hx, argsEv_eq hl]
section
variable {P : Program} {n : Nat} {w0 : World} {R : Heap} {l0 : List Oper} {K : Exit → Fr → List Heap → Prop} {f : Fr} {L : List Heap} {rest : List (Nat × Oper)} {κ : Nat}
variable {Γ : List (Nat × TI)} {d : Nat} {op : Op} {ty : TypeId} {pos : String} {aft : Array Edge} {g : Option (Nat × Bool)}
theorem call_run {fid : FuncId} {xs : List Operand} {ats : Array TypeId} {vs : List Value} {dst : Option Tmp} (he : Entr P fid) (ha : argsEv (Cx.ev n f) xs = some vs) (w : World) :
    (execOp (Cx.ev n f) ⟨dst, .call ⟨.value (.func fid), ⟨xs⟩, ats⟩, ty, pos, aft, g⟩).run P w = .ok (.enter fid ⟨vs⟩) w := by
  have h1 : (⟨xs⟩ : Array Operand).map (Cx.ev n f) = ⟨vs⟩ := by rw [← argsEv_eq ha]; simp
  simp only [execOp, resolve, h1, Cx.ev, Deferred.ofValue, Sem.run_bind, Sem.run_pure, Result.andThen_ok, invoke]
  have := he ⟨vs⟩ w
  simpa using this
theorem callv_run {fid : FuncId} {x : Operand} {xs : List Operand} {ats : Array TypeId} {vs cp : List Value} {dst : Option Tmp} (he : Entr P fid) (hx : Cx.ev n f x = .func (.func fid) ⟨[]⟩ ⟨cp⟩) (ha : argsEv (Cx.ev n f) xs = some vs) (w : World) :
    (execOp (Cx.ev n f) ⟨dst, .call ⟨.value x, ⟨xs⟩, ats⟩, ty, pos, aft, g⟩).run P w = .ok (.enter fid ⟨vs ++ cp⟩) w := by
  have h1 : (⟨xs⟩ : Array Operand).map (Cx.ev n f) = ⟨vs⟩ := by rw [← argsEv_eq ha]; simp
  simp only [execOp, resolve, h1, hx, Deferred.ofValue, Sem.run_bind, Sem.run_pure, Result.andThen_ok, invoke]
  have := he ⟨vs ++ cp⟩ w
  simpa using this
theorem J.call0 {fid : FuncId} {xs : List Operand} {ats : Array TypeId} {vs : List Value} {v : Value} (he : Entr P fid) (hg : wantB n f l0 ⟨some d, .call ⟨.value (.func fid), ⟨xs⟩, ats⟩, ty, pos, aft, g⟩ = true) (ha : argsEv (Cx.ev n f) xs = some vs)
    (hc : ∀ w, H w0 R L w → Calls P fid ⟨vs⟩ w fun e w' => e = .returned v ∧ Below w.heap.size w w') (k : J P n w0 R l0 K rest (upd f d v) L) : J P n w0 R l0 K ((κ + 1, ⟨some d, .call ⟨.value (.func fid), ⟨xs⟩, ats⟩, ty, pos, aft, g⟩) :: rest) f L :=
  J.c0 hg (call_run he ha) hc k
theorem J.call1 {fid : FuncId} {xs : List Operand} {ats : Array TypeId} {vs : List Value} {Φ : Value → Heap → Prop} (he : Entr P fid) (hg : wantB n f l0 ⟨some d, .call ⟨.value (.func fid), ⟨xs⟩, ats⟩, ty, pos, aft, g⟩ = true) (ha : argsEv (Cx.ev n f) xs = some vs)
    (hc : ∀ w, H w0 R L w → Calls P fid ⟨vs⟩ w (Gives Φ w)) (k : ∀ v h, Φ v h → J P n w0 R l0 K rest (upd f d v) (h :: L)) : J P n w0 R l0 K ((κ + 2, ⟨some d, .call ⟨.value (.func fid), ⟨xs⟩, ats⟩, ty, pos, aft, g⟩) :: rest) f L :=
  J.c1 hg (call_run he ha) hc k
theorem J.callx {fid : FuncId} {xs : List Operand} {ats : Array TypeId} {vs : List Value} {Φ : Value → List Heap → Prop} (he : Entr P fid) (hg : wantB n f l0 ⟨some d, .call ⟨.value (.func fid), ⟨xs⟩, ats⟩, ty, pos, aft, g⟩ = true) (ha : argsEv (Cx.ev n f) xs = some vs)
    (hc : ∀ w, H w0 R L w → Calls P fid ⟨vs⟩ w fun e w' => ∃ v L', e = .returned v ∧ H w0 R L' w' ∧ Φ v L') (k : ∀ v L', Φ v L' → J P n w0 R l0 K rest (upd f d v) L') : J P n w0 R l0 K ((2, ⟨some d, .call ⟨.value (.func fid), ⟨xs⟩, ats⟩, ty, pos, aft, g⟩) :: rest) f L :=
  J.c hg (call_run he ha) hc k
theorem J.callv0 {fid : FuncId} {x : Operand} {xs : List Operand} {ats : Array TypeId} {vs cp : List Value} {v : Value} (he : Entr P fid) (hx : Cx.ev n f x = .func (.func fid) ⟨[]⟩ ⟨cp⟩) (hg : wantB n f l0 ⟨some d, .call ⟨.value x, ⟨xs⟩, ats⟩, ty, pos, aft, g⟩ = true) (ha : argsEv (Cx.ev n f) xs = some vs)
    (hc : ∀ w, H w0 R L w → Calls P fid ⟨vs ++ cp⟩ w fun e w' => e = .returned v ∧ Below w.heap.size w w') (k : J P n w0 R l0 K rest (upd f d v) L) : J P n w0 R l0 K ((κ + 1, ⟨some d, .call ⟨.value x, ⟨xs⟩, ats⟩, ty, pos, aft, g⟩) :: rest) f L :=
  J.c0 hg (callv_run he hx ha) hc k
theorem J.callvx {fid : FuncId} {x : Operand} {xs : List Operand} {ats : Array TypeId} {vs cp : List Value} {Φ : Value → List Heap → Prop} (he : Entr P fid) (hx : Cx.ev n f x = .func (.func fid) ⟨[]⟩ ⟨cp⟩) (hg : wantB n f l0 ⟨some d, .call ⟨.value x, ⟨xs⟩, ats⟩, ty, pos, aft, g⟩ = true) (ha : argsEv (Cx.ev n f) xs = some vs)
    (hc : ∀ w, H w0 R L w → Calls P fid ⟨vs ++ cp⟩ w fun e w' => ∃ v L', e = .returned v ∧ H w0 R L' w' ∧ Φ v L') (k : ∀ v L', Φ v L' → J P n w0 R l0 K rest (upd f d v) L') : J P n w0 R l0 K ((2, ⟨some d, .call ⟨.value x, ⟨xs⟩, ats⟩, ty, pos, aft, g⟩) :: rest) f L :=
  J.c hg (callv_run he hx ha) hc k
end
end Go.Cx
namespace Go.Cx
open Go Go.RowKit
set_option linter.unusedVariables false
set_option linter.unusedSimpArgs false
structure SlT {α : Type} (enc : α → List Value) (size : Nat) (a : Option Addr) (ts : List α) (h : Heap) : Prop where
  len : ∀ t, (enc t).length = size
  at_ : ∀ i (hi : i < ts.length), ∃ b off cs e fr, a = some ⟨b, off, none⟩ ∧ (b, .cells ⟨cs⟩ e fr) ∈ h ∧ off + (i + 1) * size ≤ cs.length ∧ (cs.drop (off + i * size)).take size = enc ts[i]
structure OwT {α : Type} (enc : α → List Value) (size : Nat) (e : TypeId) (a : Option Addr) (cap : Nat) (ts : List α) (h : Heap) : Prop where
  len : ∀ t, (enc t).length = size
  row : (a = none ∧ cap = 0 ∧ ts = [] ∧ h = []) ∨ ∃ g cs, a = some ⟨g, 0, none⟩ ∧ h = [(g, .cells ⟨cs⟩ e (0, 0))] ∧ cs.length = cap * size ∧ ts.length ≤ cap ∧ cs.take (ts.length * size) = ts.flatMap enc
theorem flat_len {α : Type} {enc : α → List Value} {size : Nat} (hl : ∀ t, (enc t).length = size) (ts : List α) : (ts.flatMap enc).length = ts.length * size := by
  induction ts with
  | nil => simp
  | cons t ts ih => rw [List.flatMap_cons, List.length_append, ih, hl, List.length_cons, Nat.add_mul]; omega
theorem flat_at {α : Type} {enc : α → List Value} {size : Nat} (hl : ∀ t, (enc t).length = size) : ∀ (ts : List α) (i : Nat) (hi : i < ts.length), ((ts.flatMap enc).drop (i * size)).take size = enc ts[i]
  | t :: ts, 0, _ => by
    rw [List.flatMap_cons, Nat.zero_mul, List.drop_zero, List.getElem_cons_zero, List.take_append_of_le_length (by rw [hl]; exact Nat.le_refl _), List.take_of_length_le (by rw [hl]; exact Nat.le_refl _)]
  | t :: ts, i + 1, hi => by
    have := flat_at hl ts i (by simpa using hi)
    rw [List.flatMap_cons, List.getElem_cons_succ, ← this, Nat.add_mul, Nat.one_mul, List.drop_append, hl, List.drop_eq_nil_of_le (by rw [hl]; omega), List.nil_append]
    congr 2
    omega
theorem OwT.sl {α : Type} {enc : α → List Value} {size : Nat} {e : TypeId} {a : Option Addr} {cap : Nat} {ts : List α} {h : Heap} (ho : OwT enc size e a cap ts h) : SlT enc size a ts h := by
  refine ⟨ho.len, fun i hi => ?_⟩
  rcases ho.row with ⟨_, _, rfl, _⟩ | ⟨g, cs, rfl, rfl, h1, h2, h3⟩
  · simp at hi
  · have hi1 : (i + 1) * size ≤ ts.length * size := Nat.mul_le_mul_right _ hi
    have hi2 : ts.length * size ≤ cap * size := Nat.mul_le_mul_right _ h2
    refine ⟨g, 0, cs, e, (0, 0), rfl, by simp, by omega, ?_⟩
    rw [Nat.zero_add, ← flat_at ho.len ts i hi, ← h3, List.drop_take, List.take_take]
    congr 1
    rw [Nat.add_mul, Nat.one_mul] at hi1
    omega
theorem OwT.nil {α : Type} {enc : α → List Value} {size : Nat} {e : TypeId} (hl : ∀ t, (enc t).length = size) : OwT enc size e none 0 ([] : List α) [] := ⟨hl, .inl ⟨rfl, rfl, rfl, rfl⟩⟩
def pel (a : Option Addr) (size k o : Nat) : Value := .pointer (some ((a.getD ⟨0, 0, none⟩).add (k * size + o)))
theorem Addr_add_add (x : Addr) (p q : Nat) : (x.add p).add q = x.add (p + q) := by
  unfold Addr.add
  by_cases hp : p = 0 <;> by_cases hq : q = 0 <;> simp [hp, hq, Nat.add_assoc]
section
variable {P : Program} {n : Nat} {w0 : World} {R : Heap} {l0 : List Oper} {K : Exit → Fr → List Heap → Prop} {f : Fr} {L : List Heap} {rest : List (Nat × Oper)} {κ : Nat}
variable {Γ : List (Nat × TI)} {d : Nat} {op : Op} {ty : TypeId} {pos : String} {aft : Array Edge} {g : Option (Nat × Bool)}
variable {α : Type} {enc : α → List Value} {a : Option Addr} {ts : List α} {h : Heap}
theorem idx_run (hΓ : Fits P Γ) {t e : TypeId} {s1 s2 : Nat} {z1 z2 : Option Value} {b1 b2 : Nat} {de : TypeDesc} {cap : Nat} {kk : IntKind} {i : Int} (ht : look Γ t = some ⟨.slice e, s1, z1, b1⟩) (he : look Γ e = some ⟨de, s2, z2, b2⟩)
    (hs : SlT enc s2 a ts h) {len : Nat} (hlen : ts.length = len) (h0 : 0 ≤ i) (h1 : i < len) (w : World) : (Instr.indexAt t (.slice a len cap) (.int kk i)).run P w = .ok (pel a s2 i.toNat 0) w := by
  subst hlen
  have hu := (hΓ t _ ht).1
  have hsz := sizeOf_run hΓ he w
  obtain ⟨b, off, cs, e', fr, ha, _, _, _⟩ := hs.at_ i.toNat (by omega)
  subst ha
  unfold Instr.indexAt
  simp only [asIntOf, Sem.run_bind, Sem.run_pure, Result.andThen_ok, run_underlying hu]
  rw [if_pos ⟨h0, h1⟩]
  simp only [Sem.run_bind, hsz, Result.andThen_ok]
  rfl
theorem J.idx {t e : TypeId} {s1 s2 : Nat} {z1 z2 : Option Value} {b1 b2 : Nat} {de : TypeDesc} {x ix : Operand} {len cap : Nat} {kk : IntKind} {i : Int} (hΓ : Fits P Γ) (hg : wantB n f l0 ⟨some d, .indexAddr t x ix, ty, pos, aft, g⟩ = true) (hx : Cx.ev n f x = .slice a len cap) (hi : Cx.ev n f ix = .int kk i)
    (ht : look Γ t = some ⟨.slice e, s1, z1, b1⟩) (he : look Γ e = some ⟨de, s2, z2, b2⟩) (hs : SlT enc s2 a ts h) (hlen : ts.length = len) (h0 : 0 ≤ i) (h1 : i < (len : Int))
    (k : J P n w0 R l0 K rest (upd f d (pel a s2 i.toNat 0)) L) : J P n w0 R l0 K ((κ, ⟨some d, .indexAddr t x ix, ty, pos, aft, g⟩) :: rest) f L :=
  J.p hg (fun w => by
    have := idx_run (P := P) (cap := cap) (kk := kk) hΓ ht he hs hlen h0 (by omega) w
    simp only [execOp, hx, hi, Sem.run_bind]
    rw [this]
    rfl) k
theorem J.fldP {t : TypeId} {i sz k o : Nat} {x : Operand} {fs : Array Field} {fd : Field} {s1 s2 b1 b2 : Nat} {z1 z2 : Option Value} {de : TypeDesc} (hΓ : Fits P Γ) (hg : wantB n f l0 ⟨some d, .fieldAddr t x i, ty, pos, aft, g⟩ = true) (hx : Cx.ev n f x = pel a sz k o)
    (ht : look Γ t = some ⟨.struct fs, s1, z1, b1⟩) (hf : fs[i]? = some fd) (hl : look Γ fd.type = some ⟨de, s2, z2, b2⟩) (hn : Nat.beq s2 0 = false)
    (kk : J P n w0 R l0 K rest (upd f d (pel a sz k (o + fd.offset))) L) : J P n w0 R l0 K ((κ, ⟨some d, .fieldAddr t x i, ty, pos, aft, g⟩) :: rest) f L :=
  J.p hg (fun w => by
    have hu := (hΓ t _ ht).1
    have hsz := sizeOf_run hΓ hl w
    have hne : ¬ s2 = 0 := fun e => by rw [e] at hn; cases hn
    simp only [execOp, hx, Sem.run_bind]
    unfold Instr.fieldAt pel
    simp only [Sem.run_bind, run_underlying hu, Result.andThen_ok, hf, Instr.sureAddr, Sem.run_pure]
    unfold fieldPlace
    simp only [Sem.run_bind, hsz, Result.andThen_ok]
    rw [if_neg hne]
    simp only [Sem.run_pure, Result.andThen_ok, Addr_add_add, Nat.add_assoc]) kk
theorem ldP_run (hΓ : Fits P Γ) {t : TypeId} {sz k o : Nat} {v : Value} {dflt : α} {w : World} (hs : SlT enc sz a ts h) (hw : Holds h w) (hk : k < ts.length) (hv : ldEv Γ t (enc (ts.getD k dflt)) o = some v) : (Instr.loadAt t (pel a sz k o)).run P w = .ok v w := by
  obtain ⟨b, off, cs, e', fr, ha, hm, hfit, hc⟩ := hs.at_ k hk
  rw [Nat.add_mul, Nat.one_mul] at hfit
  subst ha
  have hb := hw _ hm
  have hgd : ts.getD k dflt = ts[k] := by simp [hk]
  rw [hgd, ← hc] at hv
  have hadd : (⟨b, off, none⟩ : Addr).add (k * sz + o) = ⟨b, off + (k * sz + o), none⟩ := by unfold Addr.add; split <;> simp_all
  have hle : ((cs.drop (off + k * sz)).take sz).length = sz := by rw [hc]; exact hs.len _
  unfold pel
  simp only [Option.getD_some, hadd]
  refine ldEv_ok (cs := cs) hΓ hb ?_
  unfold ldEv at hv ⊢
  cases hlk : look Γ t with
  | none => rw [hlk] at hv; cases hv
  | some ti =>
    obtain ⟨de, s, z, by'⟩ := ti
    rw [hlk] at hv
    have agg : (bif Nat.ble (o + s) ((cs.drop (off + k * sz)).take sz).length then forceL ((((cs.drop (off + k * sz)).take sz).drop o).take s) (fun l => some (Value.agg l.toArray)) else none) = some v →
        (bif Nat.ble (off + (k * sz + o) + s) cs.length then forceL ((cs.drop (off + (k * sz + o))).take s) (fun l => some (Value.agg l.toArray)) else none) = some v := by
      intro hh
      cases hb1 : Nat.ble (o + s) ((cs.drop (off + k * sz)).take sz).length with
      | false => rw [hb1] at hh; cases hh
      | true =>
        have hb2 := Nat.le_of_ble_eq_true hb1
        rw [hle] at hb2
        rw [hb1] at hh
        simp only [cond_true, forceL_eq] at hh ⊢
        have hdd : ((cs.drop (off + k * sz)).take sz |>.drop o).take s = (cs.drop (off + (k * sz + o))).take s := by
          rw [List.drop_take, List.take_take, List.drop_drop, Nat.min_eq_left (by omega), Nat.add_assoc]
        rw [hdd] at hh
        have : Nat.ble (off + (k * sz + o) + s) cs.length = true := by
          refine Nat.ble_eq_true_of_le ?_
          omega
        rw [this]
        exact hh
    cases de
    case struct => exact agg hv
    case array => exact agg hv
    all_goals
      simp only at hv ⊢
      have : ((cs.drop (off + k * sz)).take sz)[o]? = if o < sz then cs[off + (k * sz + o)]? else none := by
        rw [List.getElem?_take]
        split
        · rw [List.getElem?_drop, Nat.add_assoc]
        · rfl
      rw [this] at hv
      split at hv <;> rename_i hc' <;> split at hc' <;> first | (rw [hc']; exact hv) | cases hv | cases hc'
theorem J.ldT {t : TypeId} {sz k o : Nat} {x : Operand} {v : Value} (dflt : α) (hΓ : Fits P Γ) (hg : wantB n f l0 ⟨some d, .load t x, ty, pos, aft, g⟩ = true) (hx : Cx.ev n f x = pel a sz k o) (hs : SlT enc sz a ts h) (hr : RdH R L h) (hk : k < ts.length) (hv : ldEv Γ t (enc (ts.getD k dflt)) o = some v)
    (kk : J P n w0 R l0 K rest (upd f d v) L) : J P n w0 R l0 K ((κ + 1, ⟨some d, .load t x, ty, pos, aft, g⟩) :: rest) f L :=
  J.q hg (fun w hw => by
    have := ldP_run (P := P) hΓ hs (hw.rdH hr) hk hv
    simp only [execOp, hx, Sem.run_bind]
    rw [this]
    rfl) kk
end
end Go.Cx
namespace Go.Cx
open Go Go.RowKit
set_option linter.unusedVariables false
set_option linter.unusedSimpArgs false
theorem putL_cons (cs : List Value) (k : Nat) (x : Value) (l : List Value) : putL cs k (x :: l) = putL (cs.set k x) (k + 1) l := by
  induction cs generalizing k with
  | nil => simp [putL]
  | cons c cs ih =>
    cases k with
    | zero => simp only [putL, List.set_cons_zero]
    | succ k => simp only [putL, List.set_cons_succ]; rw [ih]
theorem foldl_put (off : Nat) : ∀ (vl : List Value) (m : Nat) (cells : Array Value), (vl.zipIdx m).foldl (fun (cs : Array Value) (p : Value × Nat) => cs.setIfInBounds (off + p.2) p.1) cells = (putL cells.toList (off + m) vl).toArray
  | [], m, cells => by rw [putL_nil]; simp
  | v :: vl, m, cells => by
    rw [List.zipIdx_cons, List.foldl_cons, foldl_put off vl (m + 1), putL_cons]
    simp [Nat.add_assoc]
def fillEv (pl : Nat → Option (Nat × Nat)) : List Value → List (Nat × List Value) → Option (List Value)
  | cells, [] => some cells
  | cells, (i, cl) :: rest =>
    match pl i with
    | some (off, sz) => bif Nat.beq cl.length sz && Nat.ble (off + cl.length) cells.length then forceL (putL cells off cl) (fun c => fillEv pl c rest) else none
    | none => none
def partsEv (ρ : Operand → Value) : List (Nat × Operand) → Option (List (Nat × List Value))
  | [] => some []
  | (i, x) :: l => match vcells (ρ x), partsEv ρ l with | some c, some r => some ((i, c) :: r) | _, _ => none
theorem fillEv_ok {pl : Nat → Option (Nat × Nat)} {ρ : Operand → Value} : ∀ {parts : List (Nat × Operand)} {cells r : List Value} {ps : List (Nat × List Value)}, partsEv ρ parts = some ps → fillEv pl cells ps = some r →
    Instr.fill pl cells.toArray (parts.map fun (i, x) => (i, ρ x)) = some r.toArray
  | [], cells, r, ps, hp, h => by
    simp only [partsEv, Option.some.injEq] at hp
    subst hp
    simp only [fillEv, Option.some.injEq] at h
    subst h
    rfl
  | (i, x) :: l, cells, r, ps, hp, h => by
    simp only [partsEv] at hp
    cases hv : vcells (ρ x) with
    | none => rw [hv] at hp; cases hp
    | some c =>
      cases hl : partsEv ρ l with
      | none => rw [hv, hl] at hp; cases hp
      | some qs =>
        rw [hv, hl] at hp
        simp only [Option.some.injEq] at hp
        subst hp
        simp only [fillEv] at h
        cases hpl : pl i with
        | none => rw [hpl] at h; cases h
        | some os =>
          obtain ⟨off, sz⟩ := os
          rw [hpl] at h
          simp only at h
          cases hb : (Nat.beq c.length sz && Nat.ble (off + c.length) cells.length) with
          | false => rw [hb] at h; cases h
          | true =>
            rw [hb] at h
            simp only [cond_true, forceL_eq] at h
            simp only [Bool.and_eq_true] at hb
            have h1 := Nat.eq_of_beq_eq_true hb.1
            have h2 := Nat.le_of_ble_eq_true hb.2
            have ih := fillEv_ok hl h
            simp only [List.map_cons, Instr.fill, hpl]
            have hc := vcells_eq hv
            have hput : (ρ x).cells.zipIdx.foldl (fun cs (x : Value × Nat) => cs.setIfInBounds (off + x.2) x.1) cells.toArray = (putL cells off c).toArray := by
              have := foldl_put off c 0 cells.toArray
              rw [hc, ← Array.foldl_toList, Array.toList_zipIdx]
              simpa using this
            rw [if_neg (by rw [hc]; simp [h1] at h2 ⊢; omega)]
            have hput' : (ρ x).cells.zipIdx.foldl (fun cs (x : Value × Nat) => match x with | (c, j) => cs.setIfInBounds (off + j) c) cells.toArray = (putL cells off c).toArray := hput
            rw [hput']
            exact ih
def placesEv (Γ : List (Nat × TI)) : List Field → Option (List (Nat × Nat))
  | [] => some []
  | fd :: l => match look Γ fd.type, placesEv Γ l with | some ti, some r => some ((fd.offset, ti.size) :: r) | _, _ => none
def buildEv (Γ : List (Nat × TI)) (t : TypeId) (ps : List (Nat × List Value)) : Option (List Value) :=
  match look Γ t with
  | some ⟨.struct ⟨fs⟩, _, some z, _⟩ => match placesEv Γ fs, vcells z with | some pl, some zc => fillEv (fun i => pl[i]?) zc ps | _, _ => none
  | some ⟨.array _ e, _, some z, _⟩ => match look Γ e, vcells z with | some te, some zc => fillEv (fun i => some (i * te.size, te.size)) zc ps | _, _ => none
  | _ => none
theorem placesEv_ok {P : Program} {Γ : List (Nat × TI)} (hΓ : Fits P Γ) : ∀ {fs : List Field} {pl : List (Nat × Nat)}, placesEv Γ fs = some pl → fs.mapM (fun f => (P.info? f.type).map fun i => (f.offset, i.size)) = some pl
  | [], pl, h => by simp only [placesEv, Option.some.injEq] at h; subst h; rfl
  | fd :: l, pl, h => by
    simp only [placesEv] at h
    cases hl : look Γ fd.type with
    | none => rw [hl] at h; cases h
    | some ti =>
      cases hr : placesEv Γ l with
      | none => rw [hl, hr] at h; cases h
      | some r =>
        rw [hl, hr] at h
        simp only [Option.some.injEq] at h
        subst h
        obtain ⟨_, i, hi, hs, _, _⟩ := hΓ _ _ hl
        have ih := placesEv_ok hΓ hr
        simp [List.mapM_cons, hi, hs, ih]
theorem buildEv_ok {P : Program} {Γ : List (Nat × TI)} (hΓ : Fits P Γ) {t : TypeId} {ρ : Operand → Value} {parts : List (Nat × Operand)} {ps : List (Nat × List Value)} {cl : List Value} (hp : partsEv ρ parts = some ps) (h : buildEv Γ t ps = some cl) (w : World) :
    (Instr.build t ((⟨parts⟩ : Array (Nat × Operand)).map fun (i, x) => (i, ρ x))).run P w = .ok (.agg cl.toArray) w := by
  refine run_build w t _ cl.toArray ?_
  unfold buildEv at h
  cases ht : look Γ t with
  | none => rw [ht] at h; cases h
  | some ti =>
    obtain ⟨hu, it, hit, hs, hz, hb⟩ := hΓ t _ ht
    obtain ⟨de, s, z, by'⟩ := ti
    rw [ht] at h
    cases de <;> try (cases h; done)
    case struct fs =>
      obtain ⟨fs⟩ := fs
      cases z with
      | none => cases h
      | some z =>
        simp only at h
        cases hpl : placesEv Γ fs with
        | none => rw [hpl] at h; cases h
        | some pl =>
          cases hzc : vcells z with
          | none => rw [hpl, hzc] at h; cases h
          | some zc =>
            rw [hpl, hzc] at h
            have := fillEv_ok hp h
            unfold Program.built
            simp only [hit, hu, hz, placesEv_ok hΓ hpl, vcells_eq hzc]
            simpa using this
    case array m e =>
      cases z with
      | none => cases h
      | some z =>
        simp only at h
        cases hle : look Γ e with
        | none => rw [hle] at h; cases h
        | some te =>
          cases hzc : vcells z with
          | none => rw [hle, hzc] at h; cases h
          | some zc =>
            rw [hle, hzc] at h
            obtain ⟨_, ie, hie, hse, _, _⟩ := hΓ e _ hle
            have := fillEv_ok hp h
            unfold Program.built
            simp only [hit, hu, hz, hie, vcells_eq hzc, hse]
            simpa using this
def zrep : Nat → List Value → List Value
  | 0, _ => []
  | k + 1, z => z ++ zrep k z
theorem zrep_len (k : Nat) (z : List Value) : (zrep k z).length = k * z.length := by
  induction k with
  | zero => simp [zrep]
  | succ k ih => rw [zrep, List.length_append, ih, Nat.add_mul]; omega
theorem zrep_at (z : List Value) : ∀ (k j : Nat), j < k * z.length → (zrep k z)[j]? = z[j % z.length]?
  | 0, j, h => by simp at h
  | k + 1, j, h => by
    rw [zrep]
    by_cases hj : j < z.length
    · rw [List.getElem?_append_left hj, Nat.mod_eq_of_lt hj]
    · rw [List.getElem?_append_right (by omega), zrep_at z k (j - z.length) (by rw [Nat.add_mul] at h; omega)]
      rw [← Nat.mod_eq_sub_mod (by omega)]
theorem made_eq (z : List Value) (k : Nat) : (Array.range (k * z.length)).map (fun j => z.toArray[j % z.length]!) = (zrep k z).toArray := by
  apply Array.ext
  · simp [zrep_len]
  · intro j h1 h2
    have hj : j < k * z.length := by simpa using h1
    have hz : 0 < z.length := by
      rcases Nat.eq_zero_or_pos z.length with h0 | h0
      · rw [h0] at hj; simp at hj
      · exact h0
    have hm : j % z.length < z.length := Nat.mod_lt _ hz
    have h3 := zrep_at z k j hj
    simp only [Array.getElem_map, Array.getElem_range, List.getElem_toArray]
    rw [List.getElem?_eq_getElem (by rw [zrep_len]; exact hj), List.getElem?_eq_getElem hm] at h3
    have h4 := Option.some.inj h3
    rw [h4]
    simp [hm]
end Go.Cx
namespace Go.Cx
open Go Go.RowKit
set_option linter.unusedVariables false
set_option linter.unusedSimpArgs false
theorem zrep_flat {α : Type} {enc : α → List Value} (z : α) (m : Nat) : zrep m (enc z) = (List.replicate m z).flatMap enc := by
  induction m with
  | zero => rfl
  | succ m ih => rw [zrep, ih, List.replicate_succ, List.flatMap_cons]
section
variable {P : Program} {n : Nat} {w0 : World} {R : Heap} {l0 : List Oper} {K : Exit → Fr → List Heap → Prop} {f : Fr} {L : List Heap} {rest : List (Nat × Oper)} {κ : Nat}
variable {Γ : List (Nat × TI)} {d : Nat} {op : Op} {ty : TypeId} {pos : String} {aft : Array Edge} {g : Option (Nat × Bool)}
theorem J.build {t : TypeId} {parts : List (Nat × Operand)} {ps : List (Nat × List Value)} {cl : List Value} (hΓ : Fits P Γ) (hg : wantB n f l0 ⟨some d, .build t ⟨parts⟩, ty, pos, aft, g⟩ = true) (hp : partsEv (Cx.ev n f) parts = some ps) (h : buildEv Γ t ps = some cl)
    (k : J P n w0 R l0 K rest (upd f d (.agg ⟨cl⟩)) L) : J P n w0 R l0 K ((κ, ⟨some d, .build t ⟨parts⟩, ty, pos, aft, g⟩) :: rest) f L :=
  J.p hg (fun w => by
    have := buildEv_ok (P := P) hΓ hp h w
    simp only [execOp, Sem.run_bind]
    rw [this]
    rfl) k
theorem J.bslice {t e : TypeId} {len : Nat} {parts : List (Nat × Operand)} {ps : List (Nat × List Value)} {zc cl : List Value} {s1 s2 b1 b2 : Nat} {z1 : Option Value} {z : Value} {de : TypeDesc} (hΓ : Fits P Γ) (hg : wantB n f l0 ⟨some d, .buildSlice t len ⟨parts⟩, ty, pos, aft, g⟩ = true)
    (ht : look Γ t = some ⟨.slice e, s1, z1, b1⟩) (he : look Γ e = some ⟨de, s2, some z, b2⟩) (hz : vcells z = some zc) (hzl : Nat.beq zc.length s2 = true) (hlen : Nat.ble (len * s2) 16777216 = true)
    (hp : partsEv (Cx.ev n f) parts = some ps) (h : fillEv (fun i => some (i * s2, s2)) (zrep len zc) ps = some cl)
    (k : ∀ b, J P n w0 R l0 K rest (upd f d (.slice (some ⟨b, 0, none⟩) len len)) ([(b, .cells ⟨cl⟩ e (0, 0))] :: L)) : J P n w0 R l0 K ((κ + 2, ⟨some d, .buildSlice t len ⟨parts⟩, ty, pos, aft, g⟩) :: rest) f L := by
  refine J.vg (Φ := fun v h => ∃ b, v = .slice (some ⟨b, 0, none⟩) len len ∧ h = [(b, .cells ⟨cl⟩ e (0, 0))]) hg
    (fun w hw => ⟨.slice (some ⟨w.heap.size, 0, none⟩) len len, _, w.alloc (.cells ⟨cl⟩ e (0, 0)), ?_, hw.alloc _, w.heap.size, rfl, rfl⟩)
    (fun v L' ⟨b, h1, h2⟩ => by subst h1; subst h2; exact k b)
  have hu := (hΓ t _ ht).1
  obtain ⟨hue, ie, hie, hse, hze, hbe⟩ := hΓ e _ he
  have hsz := sizeOf_run hΓ he w
  have hzr : (zeroValue e).run P w = .ok z w := by simp [zeroValue, typeInfo, hie, hze, go_sem]
  have hf := fillEv_ok hp h
  have hl := Nat.eq_of_beq_eq_true hzl
  have hle := Nat.le_of_ble_eq_true hlen
  have hrow : ((Array.range (len * s2)).map (fun j => (if len * s2 = 0 then (#[] : Array Value) else zc.toArray)[j % (if len * s2 = 0 then (#[] : Array Value) else zc.toArray).size]!)) = (zrep len zc).toArray := by
    by_cases h0 : len * s2 = 0
    · have hz0 : zrep len zc = [] := List.eq_nil_of_length_eq_zero (by rw [zrep_len, hl, h0])
      rw [h0, hz0]
      simp
    · simp only [if_neg h0]
      rw [← made_eq zc len, hl]
      simp [hl]
  simp only [execOp, Sem.run_bind]
  have hb : (Instr.buildSlice t len ((⟨parts⟩ : Array (Nat × Operand)).map fun (i, x) => (i, Cx.ev n f x))).run P w = .ok (.slice (some ⟨w.heap.size, 0, none⟩) len len) (w.alloc (.cells ⟨cl⟩ e (0, 0))) := by
    unfold Instr.buildSlice
    simp only [Sem.run_bind, run_underlying hu, Result.andThen_ok, hsz]
    rw [if_neg (by omega)]
    by_cases h0 : len * s2 = 0
    · have e1 : ((Array.range (len * s2)).map (fun j => (#[] : Array Value)[j % (#[] : Array Value).size]!)) = (zrep len zc).toArray := by
        have := hrow; simpa only [if_pos h0] using this
      simp only [Sem.run_bind, h0, if_true, Sem.run_pure, Result.andThen_ok]
      rw [h0] at e1
      rw [e1]
      simp only [List.map_toArray] at hf ⊢
      rw [hf]
      rfl
    · have e1 : ((Array.range (len * s2)).map (fun j => zc.toArray[j % zc.toArray.size]!)) = (zrep len zc).toArray := by
        have := hrow; simpa only [if_neg h0] using this
      simp only [Sem.run_bind, if_neg h0, hzr, Result.andThen_ok, Sem.run_pure, vcells_eq hz]
      rw [e1]
      simp only [List.map_toArray] at hf ⊢
      rw [hf]
      rfl
  rw [hb]
  rfl
theorem J.make {α : Type} {enc : α → List Value} (z0 : α) {t e : TypeId} {x y : Operand} {m : Nat} {kl kc : IntKind} {s1 s2 b1 b2 : Nat} {z1 : Option Value} {z : Value} {de : TypeDesc} (hΓ : Fits P Γ) (hg : wantB n f l0 ⟨some d, .makeSlice t x y, ty, pos, aft, g⟩ = true)
    (hx : Cx.ev n f x = .int kl (m : Int)) (hy : Cx.ev n f y = .int kc (m : Int)) (ht : look Γ t = some ⟨.slice e, s1, z1, b1⟩) (he : look Γ e = some ⟨de, s2, some z, b2⟩) (hz : vcells z = some (enc z0)) (hE : ∀ t, (enc t).length = s2) (hb : b2 * m ≤ 281474976710656) (h63 : m ≤ 9223372036854775807)
    (k : ∀ b h, OwT enc s2 e (some ⟨b, 0, none⟩) m (List.replicate m z0) h → J P n w0 R l0 K rest (upd f d (.slice (some ⟨b, 0, none⟩) m m)) (h :: L)) : J P n w0 R l0 K ((κ + 2, ⟨some d, .makeSlice t x y, ty, pos, aft, g⟩) :: rest) f L := by
  refine J.vg (Φ := fun v h => ∃ b, v = .slice (some ⟨b, 0, none⟩) m m ∧ h = [(b, .cells ⟨zrep m (enc z0)⟩ e (0, 0))]) hg
    (fun w hw => ⟨.slice (some ⟨w.heap.size, 0, none⟩) m m, _, w.alloc (.cells ⟨zrep m (enc z0)⟩ e (0, 0)), ?_, hw.alloc _, w.heap.size, rfl, rfl⟩)
    (fun v L' ⟨b, h1, h2⟩ => by
      subst h1; subst h2
      refine k b _ ⟨hE, .inr ⟨b, zrep m (enc z0), rfl, rfl, ?_, by simp, ?_⟩⟩
      · rw [zrep_len, hE]
      · rw [zrep_flat, List.take_of_length_le (by rw [flat_len hE]; exact Nat.le_refl _)])
  have hu := (hΓ t _ ht).1
  obtain ⟨hue, ie, hie, hse, hze, hbe⟩ := hΓ e _ he
  have hb' : (ie.bytes : Int) * (m : Int) ≤ 281474976710656 := by
    have h1 : ((b2 * m : Nat) : Int) ≤ 281474976710656 := by omega
    rw [Int.natCast_mul] at h1
    rw [hbe]
    exact h1
  have hrun := run_make (P := P) w t e ie z hu hie hze kl kc m m (by omega) (by omega) hb' (by omega)
  have hmade : madeCells z.cells ((m : Int).toNat * ie.size) = (zrep m (enc z0)).toArray := by
    unfold madeCells
    rw [vcells_eq hz, hse]
    have := made_eq (enc z0) m
    rw [hE] at this
    simpa [hE] using this
  rw [hmade] at hrun
  simp only [execOp, hx, hy, Sem.run_bind]
  rw [hrun]
  rfl
end
end Go.Cx
namespace Go.Cx
open Go Go.RowKit
set_option linter.unusedVariables false
set_option linter.unusedSimpArgs false
theorem putL_take : ∀ (cs : List Value) (k : Nat) (l : List Value) (m : Nat), (putL cs k l).take m = putL (cs.take m) k l
  | [], k, l, m => by simp [putL]
  | c :: cs, k, l, 0 => by simp [putL]
  | c :: cs, k + 1, l, m + 1 => by simp only [putL, List.take_succ_cons]; rw [putL_take cs k l m]
  | c :: cs, 0, [], m + 1 => by simp only [putL, List.take_succ_cons]
  | c :: cs, 0, x :: l, m + 1 => by simp only [putL, List.take_succ_cons]; rw [putL_take cs 0 l m]
theorem putL_right : ∀ (a b : List Value) (k : Nat) (l : List Value), putL (a ++ b) (a.length + k) l = a ++ putL b k l
  | [], b, k, l => by simp
  | c :: a, b, k, l => by
    rw [List.cons_append, List.length_cons, Nat.add_right_comm, putL, putL_right a b k l]
    rfl
theorem putL_left : ∀ (a b : List Value) (k : Nat) (l : List Value), k + l.length ≤ a.length → putL (a ++ b) k l = putL a k l ++ b
  | [], b, k, l, h => by
    simp at h
    obtain ⟨rfl, rfl⟩ := h
    simp [putL_nil]
  | c :: a, b, k + 1, l, h => by
    simp only [List.cons_append, putL]
    rw [putL_left a b k l (by simp at h; omega)]
  | c :: a, b, 0, [], h => by simp [putL]
  | c :: a, b, 0, x :: l, h => by
    simp only [List.cons_append, putL]
    rw [putL_left a b 0 l (by simp at h ⊢; omega)]
theorem put_flat {α : Type} {enc : α → List Value} {size : Nat} (hl : ∀ t, (enc t).length = size) (u : α) (o : Nat) (cl : List Value) (hle : o + cl.length ≤ size) : ∀ (ts : List α) (i : Nat) (hi : i < ts.length), enc u = putL (enc ts[i]) o cl →
    putL (ts.flatMap enc) (i * size + o) cl = (ts.set i u).flatMap enc
  | t :: ts, 0, _, h => by
    rw [Nat.zero_mul, Nat.zero_add, List.flatMap_cons, putL_left _ _ _ _ (by rw [hl]; exact hle), List.set_cons_zero, List.flatMap_cons, h]
    rfl
  | t :: ts, i + 1, hi, h => by
    have ih := put_flat hl u o cl hle ts i (by simpa using hi) (by simpa using h)
    rw [List.set_cons_succ, List.flatMap_cons, List.flatMap_cons, ← ih, ← putL_right, hl]
    congr 1
    rw [Nat.add_mul]
    omega
theorem ones_append {a b : List Value} (ha : ones a = true) (hb : ones b = true) : ones (a ++ b) = true := by
  induction a with
  | nil => exact hb
  | cons x a ih => cases x <;> simp only [ones, List.cons_append] at ha ⊢ <;> first | (cases ha; done) | exact ih ha
theorem ones_flat {α : Type} {enc : α → List Value} (h : ∀ t, ones (enc t) = true) (ts : List α) : ones (ts.flatMap enc) = true := by
  induction ts with
  | nil => rfl
  | cons t ts ih => rw [List.flatMap_cons]; exact ones_append (h t) ih
section
variable {P : Program} {n : Nat} {w0 : World} {R : Heap} {l0 : List Oper} {K : Exit → Fr → List Heap → Prop} {f : Fr} {L : List Heap} {rest : List (Nat × Oper)} {κ : Nat}
variable {Γ : List (Nat × TI)} {d : Nat} {op : Op} {ty : TypeId} {pos : String} {aft : Array Edge} {g : Option (Nat × Bool)}
variable {α : Type} {enc : α → List Value} {a : Option Addr} {ts us : List α} {h : Heap} {size e cap : Nat}
theorem app_run (hΓ : Fits P Γ) {t ty' : TypeId} {s1 b1 b2 : Nat} {z1 : Option Value} {z : Value} {zc : List Value} {de : TypeDesc} (ht : look Γ t = some ⟨.slice e, s1, z1, b1⟩) (he : look Γ e = some ⟨de, size, some z, b2⟩) (hz : vcells z = some zc) (hzl : zc.length = size)
    {w : World} (hw : H w0 R (h :: L) w) (ho : OwT enc size e a cap ts h) {ad : Addr} {c : Nat} (hnews : ∀ j u, (us.flatMap enc)[j]? = some u → w.cell? (ad.add j) = some u) (h1 : ones (us.flatMap enc) = true) (hm : 0 < us.length)
    (hb : (ts.length + us.length) * b2 ≤ 140737488355328) (h63 : ts.length + us.length ≤ 9223372036854775807) :
    ∃ a' cap' h' w', (Builtin.append_ #[t, t] ty' #[.slice a ts.length cap, .slice (some ad) us.length c]).run P w = .ok (.slice a' (ts.length + us.length) cap') w' ∧ H w0 R (h' :: L) w' ∧ OwT enc size e a' cap' (ts ++ us) h' := by
  have hu := (hΓ t _ ht).1
  obtain ⟨hue, ie, hie, hse, hze, hbe⟩ := hΓ e _ he
  have hl : (us.flatMap enc).length = us.length * ie.size := by rw [flat_len ho.len, hse]
  have hzs : z.cells.size = size := by rw [vcells_eq hz]; simpa using hzl
  have hsz : ie.size = size := hse
  rcases ho.row with ⟨rfl, rfl, rfl, rfl⟩ | ⟨gb, cs, rfl, rfl, hc1, hc2, hc3⟩
  · -- nothing yet
    have hrun := run_append_nil (P := P) w t ty' e ie z hu hie hze ad us.length c (us.flatMap enc) hl hnews hm (by simp at h63; omega) (by rw [hbe]; show us.length * b2 ≤ _; simp at hb; omega)
    have hge := grownCap_ge w us.length 0 e
    refine ⟨some ⟨w.heap.size, 0, none⟩, grownCap w us.length 0 e, _, _, ?_, (hw.drop.drew (w.drawn + 1)).alloc (.cells ((us.flatMap enc).toArray ++ Builtin.zeroCells z.cells (grownCap w us.length 0 e - us.length)) e), ?_⟩
    · simp only [List.length_nil, Nat.zero_add]
      exact hrun
    · refine ⟨ho.len, .inr ⟨w.heap.size, (us.flatMap enc) ++ (Builtin.zeroCells z.cells (grownCap w us.length 0 e - us.length)).toList, rfl, ?_, ?_, ?_, ?_⟩⟩
      · simp
      · simp only [List.length_append, Array.length_toList, size_zeroCells, hzs, flat_len ho.len]
        rw [← Nat.add_mul]
        congr 1
        omega
      · simpa using hge
      · simp only [List.nil_append]
        rw [List.take_append_of_le_length (by rw [flat_len ho.len]; exact Nat.le_refl _), List.take_of_length_le (by rw [flat_len ho.len]; exact Nat.le_refl _)]
  · have hg : w.heap[gb]? = some (.cells cs.toArray e (0, 0)) := hw.own (gb, _) (by simp)
    by_cases hroom : ts.length + us.length ≤ cap
    · -- there is room
      have hfit : ts.length * ie.size + (us.flatMap enc).length ≤ cs.toArray.size := by
        rw [hl, ← Nat.add_mul, hsz]
        simp only [List.size_toArray, hc1]
        exact Nat.mul_le_mul_right _ hroom
      have hrun := run_append_room (P := P) w t ty' e ie hu hie gb ts.length cap cs.toArray hg ad us.length c (us.flatMap enc) hl hnews (ones_ok h1) hroom hfit
      refine ⟨_, _, [(gb, .cells ⟨ts.flatMap enc ++ us.flatMap enc ++ cs.drop (ts.length * ie.size + (us.flatMap enc).length)⟩ e (0, 0))], _, hrun, ?_, ?_⟩
      · refine hw.write rfl rfl rfl (by simp) ?_ (fun k hk => setRow_other _ _ _ _ hk)
        rw [setRow_heap w gb _ _ e _ hg]
        simp only [hsz, hc3]
      · refine ⟨ho.len, .inr ⟨gb, _, rfl, rfl, ?_, ?_, ?_⟩⟩
        · simp only [List.length_append, List.length_drop, flat_len ho.len, hsz, hc1]
          simp only [List.size_toArray, hc1, hl, hsz] at hfit
          have := hfit
          omega
        · simpa using hroom
        · rw [List.flatMap_append, List.take_append_of_le_length (by rw [List.length_append, List.length_append, flat_len ho.len, flat_len ho.len, Nat.add_mul]; exact Nat.le_refl _)]
          rw [List.take_of_length_le (by rw [List.length_append, List.length_append, flat_len ho.len, flat_len ho.len, Nat.add_mul]; exact Nat.le_refl _)]
    · -- a new row
      have hlt : cap < ts.length + us.length := by omega
      have hadd : ∀ j, (⟨gb, 0, none⟩ : Addr).add j = ⟨gb, j, none⟩ := fun j => by unfold Addr.add; split <;> simp_all
      have hfit : Builtin.nextslicecap (ts.length + us.length) cap * ie.bytes ≤ 281474976710656 := by
        have h2 := nextslicecap_le hlt
        have h3 : Builtin.nextslicecap (ts.length + us.length) cap * b2 ≤ (2 * (ts.length + us.length)) * b2 := Nat.mul_le_mul_right _ h2
        rw [Nat.mul_assoc] at h3
        rw [hbe]
        show _ * b2 ≤ _
        omega
      have hrun := run_append_grow (P := P) w t ty' e ie z hu hie hze ⟨gb, 0, none⟩ ts.length cap (ts.flatMap enc) (by rw [flat_len ho.len, hsz]) (fun j v hj => by
          rw [hadd, cell_of_row w gb j cs.toArray e (0, 0) hg]
          rw [← hc3, List.getElem?_take] at hj
          split at hj
          · simpa using hj
          · cases hj) ad us.length c (us.flatMap enc) hl hnews hlt (by omega) hfit
      have hge := grownCap_ge w (ts.length + us.length) cap e
      refine ⟨_, _, _, _, hrun, (hw.drop.drew (w.drawn + 1)).alloc _, ?_⟩
      refine ⟨ho.len, .inr ⟨w.heap.size, ts.flatMap enc ++ us.flatMap enc ++ (Builtin.zeroCells z.cells (grownCap w (ts.length + us.length) cap e - (ts.length + us.length))).toList, rfl, ?_, ?_, ?_, ?_⟩⟩
      · simp
      · simp only [List.length_append, Array.length_toList, size_zeroCells, hzs, flat_len ho.len]
        rw [← Nat.add_mul, ← Nat.add_mul]
        congr 1
        omega
      · simpa using hge
      · rw [List.flatMap_append, List.take_append_of_le_length (by rw [List.length_append, List.length_append, flat_len ho.len, flat_len ho.len, Nat.add_mul]; exact Nat.le_refl _)]
        rw [List.take_of_length_le (by rw [List.length_append, List.length_append, flat_len ho.len, flat_len ho.len, Nat.add_mul]; exact Nat.le_refl _)]
theorem J.app1 {t : TypeId} {x y : Operand} {len m c gx : Nat} {cl : List Value} {fr : Nat × Nat} {e' s1 b1 b2 : Nat} {z1 : Option Value} {z : Value} {zc : List Value} {de : TypeDesc} (us : List α) (hΓ : Fits P Γ) (hg : wantB n f l0 ⟨some d, .call ⟨.builtin .append, ⟨[x, y]⟩, ⟨[t, t]⟩⟩, ty, pos, aft, g⟩ = true)
    (hx : Cx.ev n f x = .slice a len cap) (hy : Cx.ev n f y = .slice (some ⟨gx, 0, none⟩) m c) (ht : look Γ t = some ⟨.slice e, s1, z1, b1⟩) (he : look Γ e = some ⟨de, size, some z, b2⟩) (hz : vcells z = some zc) (hzl : Nat.beq zc.length size = true)
    (ho : OwT enc size e a cap ts h) (hlen : ts.length = len) (hus : us.flatMap enc = cl) (hm : us.length = m) (h1 : ones cl = true) (hpos : 0 < m) (hb : (len + m) * b2 ≤ 140737488355328) (h63 : len + m ≤ 9223372036854775807)
    (k : ∀ a' cap' h', OwT enc size e a' cap' (ts ++ us) h' → J P n w0 R l0 K rest (upd f d (.slice a' (len + m) cap')) (h' :: L)) :
    J P n w0 R l0 K ((2, ⟨some d, .call ⟨.builtin .append, ⟨[x, y]⟩, ⟨[t, t]⟩⟩, ty, pos, aft, g⟩) :: rest) f ([(gx, .cells ⟨cl⟩ e' fr)] :: h :: L) := by
  subst hlen hm hus
  refine J.v (Φ := fun v L' => ∃ a' cap' h', v = .slice a' (ts.length + us.length) cap' ∧ L' = h' :: L ∧ OwT enc size e a' cap' (ts ++ us) h') hg (fun w hw => ?_) (fun v L' ⟨a', cap', h', e1, e2, e3⟩ => by subst e1; subst e2; exact k a' cap' h' e3)
  have hgx : w.heap[gx]? = some (.cells (us.flatMap enc).toArray e' fr) := hw.own (gx, _) (by simp)
  have hadd : ∀ j, (⟨gx, 0, none⟩ : Addr).add j = ⟨gx, j, none⟩ := fun j => by unfold Addr.add; split <;> simp_all
  obtain ⟨a', cap', h', w', hr, hw', ho'⟩ := app_run (P := P) (ty' := ty) (us := us) (ad := ⟨gx, 0, none⟩) (c := c) hΓ ht he hz (Nat.eq_of_beq_eq_true hzl) hw.drop ho
    (fun j u hj => by rw [hadd, cell_of_row w gx j _ e' fr hgx]; simpa using hj) h1 hpos hb h63
  refine ⟨_, _, w', ?_, hw', a', cap', h', rfl, rfl, ho'⟩
  have h2 : (⟨[x, y]⟩ : Array Operand).map (Cx.ev n f) = #[.slice a ts.length cap, .slice (some ⟨gx, 0, none⟩) us.length c] := by simp [hx, hy]
  simp only [execOp, resolve, h2, Sem.run_bind, Sem.run_pure, Result.andThen_ok, invoke, builtin]
  rw [hr]
  rfl
theorem J.appS {t : TypeId} {x y : Operand} {len m c : Nat} {b : Option Addr} {hs : Heap} {s1 b1 b2 : Nat} {z1 : Option Value} {z : Value} {zc : List Value} {de : TypeDesc} (hΓ : Fits P Γ) (hg : wantB n f l0 ⟨some d, .call ⟨.builtin .append, ⟨[x, y]⟩, ⟨[t, t]⟩⟩, ty, pos, aft, g⟩ = true)
    (hx : Cx.ev n f x = .slice a len cap) (hy : Cx.ev n f y = .slice b m c) (ht : look Γ t = some ⟨.slice e, s1, z1, b1⟩) (he : look Γ e = some ⟨de, size, some z, b2⟩) (hz : vcells z = some zc) (hzl : Nat.beq zc.length size = true)
    (ho : OwT enc size e a cap ts h) (hlen : ts.length = len) (hus : SlT enc size b us hs) (hm : us.length = m) (hr : RdH R (h :: L) hs) (h1 : ∀ t, ones (enc t) = true) (hpos : 0 < m) (hb : (len + m) * b2 ≤ 140737488355328) (h63 : len + m ≤ 9223372036854775807)
    (k : ∀ a' cap' h', OwT enc size e a' cap' (ts ++ us) h' → J P n w0 R l0 K rest (upd f d (.slice a' (len + m) cap')) (h' :: L)) :
    J P n w0 R l0 K ((2, ⟨some d, .call ⟨.builtin .append, ⟨[x, y]⟩, ⟨[t, t]⟩⟩, ty, pos, aft, g⟩) :: rest) f (h :: L) := by
  subst hlen hm
  refine J.v (Φ := fun v L' => ∃ a' cap' h', v = .slice a' (ts.length + us.length) cap' ∧ L' = h' :: L ∧ OwT enc size e a' cap' (ts ++ us) h') hg (fun w hw => ?_) (fun v L' ⟨a', cap', h', e1, e2, e3⟩ => by subst e1; subst e2; exact k a' cap' h' e3)
  obtain ⟨bb, off, cs0, e0, fr0, rfl, hm0, _, _⟩ := hus.at_ 0 hpos
  obtain ⟨a', cap', h', w', hrn, hw', ho'⟩ := app_run (P := P) (ty' := ty) (us := us) (ad := ⟨bb, off, none⟩) (c := c) hΓ ht he hz (Nat.eq_of_beq_eq_true hzl) hw ho
    (fun j u hj => by
      have hsz : 0 < size := by
        rcases Nat.eq_zero_or_pos size with h0 | h0
        · have hl0 := flat_len ho.len us
          rw [h0, Nat.mul_zero] at hl0
          rw [List.eq_nil_of_length_eq_zero hl0] at hj
          simp at hj
        · exact h0
      have hjl : j < us.length * size := by rw [← flat_len ho.len]; exact (List.getElem?_eq_some_iff.1 hj).1
      have hi : j / size < us.length := Nat.div_lt_of_lt_mul (by rw [Nat.mul_comm]; exact hjl)
      obtain ⟨b2', off2, cs, e2, fr2, e1, hm2, hf2, hc2⟩ := hus.at_ (j / size) hi
      simp only [Option.some.injEq, Addr.mk.injEq, and_true] at e1
      obtain ⟨rfl, rfl⟩ := e1
      have hadd : (⟨bb, off, none⟩ : Addr).add j = ⟨bb, off + j, none⟩ := by unfold Addr.add; split <;> simp_all
      have hbk := hw.rd (hr _ hm2)
      rw [hadd, cell_of_row w bb (off + j) _ e2 fr2 hbk]
      have hfa := flat_at ho.len us (j / size) hi
      have hmod : j / size * size + j % size = j := by rw [Nat.mul_comm]; exact Nat.div_add_mod j size
      have hml := Nat.mod_lt j hsz
      have e3 : ((us.flatMap enc).drop (j / size * size) |>.take size)[j % size]? = some u := by
        rw [List.getElem?_take, if_pos hml, List.getElem?_drop, hmod, hj]
      rw [hfa, ← hc2, List.getElem?_take, if_pos hml, List.getElem?_drop] at e3
      rw [show off + j = off + j / size * size + j % size by omega]
      simpa using e3) (ones_flat h1 us) hpos hb h63
  refine ⟨_, _, w', ?_, hw', a', cap', h', rfl, rfl, ho'⟩
  have h2 : (⟨[x, y]⟩ : Array Operand).map (Cx.ev n f) = #[.slice a ts.length cap, .slice (some ⟨bb, off, none⟩) us.length c] := by simp [hx, hy]
  simp only [execOp, resolve, h2, Sem.run_bind, Sem.run_pure, Result.andThen_ok, invoke, builtin]
  rw [hrn]
  rfl
theorem J.stT {t : TypeId} {x y : Operand} {ti : TI} {cl cl' : List Value} {i o : Nat} (u : α) (dflt : α) (hΓ : Fits P Γ) (hg : wantB n f l0 ⟨none, .store t x y, ty, pos, aft, g⟩ = true) (hx : Cx.ev n f x = pel a size i o) (ht : look Γ t = some ti)
    (hv : vcells (Cx.ev n f y) = some cl) (hn : Nat.beq cl.length ti.size = true) (h1 : ones cl = true) (ho : OwT enc size e a cap ts h) (hi : i < ts.length) (hcl : putE (enc (ts.getD i dflt)) o cl = some cl') (hu : enc u = cl')
    (k : ∀ h', OwT enc size e a cap (ts.set i u) h' → J P n w0 R l0 K rest f (h' :: L)) : J P n w0 R l0 K ((2, ⟨none, .store t x y, ty, pos, aft, g⟩) :: rest) f (h :: L) := by
  rcases ho.row with ⟨rfl, rfl, rfl, rfl⟩ | ⟨gb, cs, rfl, rfl, hc1, hc2, hc3⟩
  · simp at hi
  · unfold putE at hcl
    have hgd : ts.getD i dflt = ts[i] := by simp [hi]
    rw [hgd] at hcl
    have hi1 : (i + 1) * size ≤ ts.length * size := Nat.mul_le_mul_right _ hi
    have hi2 : ts.length * size ≤ cap * size := Nat.mul_le_mul_right _ hc2
    rw [Nat.add_mul, Nat.one_mul] at hi1
    cases hle : Nat.ble (o + cl.length) (enc ts[i]).length with
    | false => rw [hle] at hcl; cases hcl
    | true =>
      rw [hle] at hcl
      simp only [cond_true, forceL_eq, Option.some.injEq] at hcl
      have hle' := Nat.le_of_ble_eq_true hle
      rw [ho.len] at hle'
      have hp : i * size + o + cl.length ≤ cs.length := by omega
      have hpt : Cx.ev n f x = .pointer (some ⟨gb, i * size + o, none⟩) := by
        rw [hx]
        unfold pel Addr.add
        simp only [Option.getD_some]
        split <;> simp_all
      refine J.s hg (fun w hw => ?_) (k [(gb, .cells ⟨putL cs (i * size + o) cl⟩ e (0, 0))] ⟨ho.len, .inr ⟨gb, _, rfl, rfl, by rw [putL_length, hc1], by simpa using hc2, ?_⟩⟩)
      · obtain ⟨w', hr, hw'⟩ := store_ok hΓ ht hv hn h1 hp rfl hw
        exact ⟨w', by simp only [execOp, hpt, Sem.run_bind]; rw [hr]; rfl, hw'⟩
      · -- what the cells are behind the store
        rw [List.length_set]
        rw [putL_take, hc3]
        exact put_flat ho.len u o cl hle' ts i hi (by rw [hu, hcl])
theorem J.stT1 {a1 : Heap} {t : TypeId} {x y : Operand} {ti : TI} {cl cl' : List Value} {i o : Nat} (u : α) (dflt : α) (hΓ : Fits P Γ) (hg : wantB n f l0 ⟨none, .store t x y, ty, pos, aft, g⟩ = true) (hx : Cx.ev n f x = pel a size i o) (ht : look Γ t = some ti)
    (hv : vcells (Cx.ev n f y) = some cl) (hn : Nat.beq cl.length ti.size = true) (h1 : ones cl = true) (ho : OwT enc size e a cap ts h) (hi : i < ts.length) (hcl : putE (enc (ts.getD i dflt)) o cl = some cl') (hu : enc u = cl')
    (k : ∀ h', OwT enc size e a cap (ts.set i u) h' → J P n w0 R l0 K rest f (a1 :: h' :: L)) : J P n w0 R l0 K ((2, ⟨none, .store t x y, ty, pos, aft, g⟩) :: rest) f (a1 :: h :: L) :=
  J.perm (.swap _ _ _) (J.stT u dflt hΓ hg hx ht hv hn h1 ho hi hcl hu (fun h' ho' => J.perm (.swap _ _ _) (k h' ho')))
theorem J.stT2 {a1 a2 : Heap} {t : TypeId} {x y : Operand} {ti : TI} {cl cl' : List Value} {i o : Nat} (u : α) (dflt : α) (hΓ : Fits P Γ) (hg : wantB n f l0 ⟨none, .store t x y, ty, pos, aft, g⟩ = true) (hx : Cx.ev n f x = pel a size i o) (ht : look Γ t = some ti)
    (hv : vcells (Cx.ev n f y) = some cl) (hn : Nat.beq cl.length ti.size = true) (h1 : ones cl = true) (ho : OwT enc size e a cap ts h) (hi : i < ts.length) (hcl : putE (enc (ts.getD i dflt)) o cl = some cl') (hu : enc u = cl')
    (k : ∀ h', OwT enc size e a cap (ts.set i u) h' → J P n w0 R l0 K rest f (a1 :: a2 :: h' :: L)) : J P n w0 R l0 K ((2, ⟨none, .store t x y, ty, pos, aft, g⟩) :: rest) f (a1 :: a2 :: h :: L) :=
  J.perm ((List.Perm.swap _ _ _).cons _) (J.stT1 u dflt hΓ hg hx ht hv hn h1 ho hi hcl hu (fun h' ho' => J.perm ((List.Perm.swap _ _ _).cons _) (k h' ho')))
theorem J.stT3 {a1 a2 a3 : Heap} {t : TypeId} {x y : Operand} {ti : TI} {cl cl' : List Value} {i o : Nat} (u : α) (dflt : α) (hΓ : Fits P Γ) (hg : wantB n f l0 ⟨none, .store t x y, ty, pos, aft, g⟩ = true) (hx : Cx.ev n f x = pel a size i o) (ht : look Γ t = some ti)
    (hv : vcells (Cx.ev n f y) = some cl) (hn : Nat.beq cl.length ti.size = true) (h1 : ones cl = true) (ho : OwT enc size e a cap ts h) (hi : i < ts.length) (hcl : putE (enc (ts.getD i dflt)) o cl = some cl') (hu : enc u = cl')
    (k : ∀ h', OwT enc size e a cap (ts.set i u) h' → J P n w0 R l0 K rest f (a1 :: a2 :: a3 :: h' :: L)) : J P n w0 R l0 K ((2, ⟨none, .store t x y, ty, pos, aft, g⟩) :: rest) f (a1 :: a2 :: a3 :: h :: L) :=
  J.perm (((List.Perm.swap _ _ _).cons _).cons _) (J.stT2 u dflt hΓ hg hx ht hv hn h1 ho hi hcl hu (fun h' ho' => J.perm (((List.Perm.swap _ _ _).cons _).cons _) (k h' ho')))
end
end Go.Cx
namespace Go.Cx
open Go Go.RowKit
set_option linter.unusedVariables false
set_option linter.unusedSimpArgs false
section
variable {P : Program} {ops : Array Oper} {md : Region.Mode} {Q : Exit → Act → World → Prop}
def waitsB (md : Region.Mode) (ops : Array Oper) (i : Nat) : Nat → Nat → Bool
  | 0, _ => false
  | fuel + 1, j =>
    match ops[j]? with
    | some oj => (oj.after.any fun e => Region.binds md e && e.on == i) || oj.after.any fun e => Region.binds md e && waitsB md ops i fuel e.on
    | none => false
structure Closed (md : Region.Mode) (ops : Array Oper) (listed : Array Bool) : Prop where
  size : listed.size = ops.size
  closed : ∀ j oj, ops[j]? = some oj → listed.getD j false = true → ∀ e ∈ oj.after, Region.binds md e = true → listed.getD e.on false = true
theorem getDb {listed : Array Bool} {i : Nat} (h : listed.getD i true = false) : listed.getD i false = false := by
  rcases Nat.lt_or_ge i listed.size with h' | h'
  · simp [h'] at h ⊢; exact h
  · simp [Array.getElem?_eq_none h'] at h
theorem Closed.set {listed : Array Bool} {i : Nat} (inv : Closed md ops listed) (hi : i ∈ Region.ready md ops listed) : Closed md ops (listed.setIfInBounds i true) := by
  obtain ⟨_, oi, hoi, hall⟩ := mem_ready.1 hi
  refine ⟨by simp [inv.size], fun j oj hj hl e he hb => ?_⟩
  by_cases hij : i = j
  · subst hij
    have : oj = oi := Option.some.inj (hj.symm.trans hoi)
    subst this
    exact getD_set_true (hall e he hb)
  · rw [getD_set_ne false hij] at hl
    exact getD_set_true (inv.closed j oj hj hl e he hb)
theorem waitsB_listed {listed : Array Bool} {i : Nat} (inv : Closed md ops listed) : ∀ (fuel j : Nat), waitsB md ops i fuel j = true → listed.getD j false = true → listed.getD i false = true
  | 0, _, h, _ => by cases h
  | fuel + 1, j, h, hl => by
    unfold waitsB at h
    cases hj : ops[j]? with
    | none => rw [hj] at h; cases h
    | some oj =>
      rw [hj] at h
      simp only [Bool.or_eq_true, Array.any_eq_true', Bool.and_eq_true, beq_iff_eq] at h
      rcases h with ⟨e, he, hb, hon⟩ | ⟨e, he, hb, hw⟩
      · rw [← hon]; exact inv.closed j oj hj hl e he hb
      · exact waitsB_listed inv fuel e.on hw (inv.closed j oj hj hl e he hb)
theorem waitsB_ready {listed : Array Bool} {i j : Nat} {fuel : Nat} (inv : Closed md ops listed) (h : waitsB md ops i fuel j = true) (hr : j ∈ Region.ready md ops listed) : listed.getD i false = true := by
  obtain ⟨_, oj, hj, hall⟩ := mem_ready.1 hr
  cases fuel with
  | zero => cases h
  | succ fuel =>
    unfold waitsB at h
    rw [hj] at h
    simp only [Bool.or_eq_true, Array.any_eq_true', Bool.and_eq_true, beq_iff_eq] at h
    rcases h with ⟨e, he, hb, hon⟩ | ⟨e, he, hb, hw⟩
    · rw [← hon]; exact hall e he hb
    · exact waitsB_listed inv fuel e.on hw (hall e he hb)
def GX (P : Program) (md : Region.Mode) (ops : Array Oper) (Q : Exit → Act → World → Prop) (loud gro : Nat → Bool) : (World → Prop) → Nat → Array Bool → Act → Prop
  | C, 0, listed, a => Region.ready md ops listed = [] ∧ ∀ w, C w → Q .normal a w
  | C, fuel + 1, listed, a =>
    (Region.ready md ops listed = [] → ∀ w, C w → Q .normal a w) ∧
    ∀ j ∈ Region.ready md ops listed, (loud j = true ∧ ∀ w, C w → wpOp P ops Q j (fun a' w' => ∃ C' : World → Prop, (gro j = true → ∀ w, C' w → C w) ∧ C' w' ∧ GX P md ops Q loud gro C' fuel (listed.setIfInBounds j true) a') a w) ∨
      (loud j = false ∧ ∃ oj v, ops[j]? = some oj ∧ YieldsIn P ops C oj v a ∧ GX P md ops Q loud gro C fuel (listed.setIfInBounds j true) (a.put oj.dst v))
theorem GX.any {loud gro : Nat → Bool} : ∀ {fuel : Nat} {C : World → Prop} {listed : Array Bool} {a : Act}, GX P md ops Q loud gro C fuel listed a → ∀ w, C w → wpAny P md ops Q fuel listed a w
  | 0, C, _, _, h, w, hw => ⟨h.1, h.2 w hw⟩
  | fuel + 1, C, listed, a, h, w, hw => by
    refine ⟨fun h0 => h.1 h0 w hw, fun j hj => ?_⟩
    rcases h.2 j hj with ⟨_, h1⟩ | ⟨_, oj, v, ho, hy, hg⟩
    · exact wpOp_mono (fun a' w' ⟨C', _, hC', hk⟩ => hk.any w' hC') (h1 w hw)
    · exact wpOp_of_qOp (K := GX P md ops Q loud gro C fuel (listed.setIfInBounds j true)) hw (fun a' w' hw' hk => hk.any w' hw') (hy.qOp ho hg)
theorem GX.first {loud gro : Nat → Bool} {i : Nat} {oi : Oper} {v : Value} (hi : ops[i]? = some oi) (hsel : ∀ (j : Nat) (o : Oper) cs b, ops[j]? = some o → o.op ≠ .select cs b) (hQ : ∀ c a w, ¬ Q (.panic c) a w) (hil : loud i = false) :
    ∀ (fuel : Nat) (C : World → Prop) (listed : Array Bool) (a : Act), Closed md ops listed →
      (∀ j oj, ops[j]? = some oj → j ≠ i → listed.getD j true = false → (∀ e ∈ oj.after, Region.binds md e = true → e.on ≠ i) → oi.apart ops oj = true) →
      i ∈ Region.ready md ops listed → YieldsIn P ops C oi v a →
      (Yields P ops oi v a ∨ (∀ j, loud j = true → listed.getD j true = false → ∃ f, waitsB md ops i f j = true) ∨ (YieldsIf P ops C oi v a ∧ ∀ j, loud j = true → listed.getD j true = false → gro j = true ∨ ∃ f, waitsB md ops i f j = true)) →
      GX P md ops Q loud gro C fuel (listed.setIfInBounds i true) (a.put oi.dst v) → GX P md ops Q loud gro C (fuel + 1) listed a := by
  intro fuel
  induction fuel with
  | zero =>
    intro C listed a inv _ hr hy _ hg
    refine ⟨fun h => (by rw [h] at hr; cases hr), fun j hj => ?_⟩
    by_cases hji : j = i
    · subst hji; exact .inr ⟨hil, oi, v, hi, hy, hg⟩
    · have := ready_mono hj hji
      rw [hg.1] at this
      cases this
  | succ fuel ih =>
    intro C listed a inv hfree hr hy hp hg
    refine ⟨fun h => (by rw [h] at hr; cases hr), fun j hj => ?_⟩
    by_cases hji : j = i
    · subst hji; exact .inr ⟨hil, oi, v, hi, hy, hg⟩
    · obtain ⟨hjun, oj, hoj, hall⟩ := mem_ready.1 hj
      have hiun := (mem_ready.1 hr).1
      have hnot : ∀ e ∈ oj.after, Region.binds md e = true → e.on ≠ i := fun e he hb heq => by
        have h1 := hall e he hb
        rw [heq, getDb hiun] at h1
        cases h1
      have hap := hfree j oj hoj hji hjun hnot
      obtain ⟨h1, h2, h3⟩ := Oper.apart_spec hap
      have hfree' : ∀ k ok, ops[k]? = some ok → k ≠ i → (listed.setIfInBounds j true).getD k true = false →
          (∀ e ∈ ok.after, Region.binds md e = true → e.on ≠ i) → oi.apart ops ok = true := fun k ok hk hki hun hno => by
        refine hfree k ok hk hki ?_ hno
        by_cases hjk : j = k
        · subst hjk; exact hjun
        · rw [getD_set_ne true hjk] at hun; exact hun
      have hun' : ∀ k, (listed.setIfInBounds j true).getD k true = false → listed.getD k true = false := fun k hun => by
        by_cases hjk : j = k
        · subst hjk; exact hjun
        · rw [getD_set_ne true hjk] at hun; exact hun
      rcases hg.2 j (ready_mono hj hji) with ⟨hl, hw⟩ | ⟨hl, oj', u, hoj', hyj, hgj⟩
      · rcases hp with hp | hp | ⟨hp, hpg⟩
        · refine .inl ⟨hl, fun w hC => ?_⟩
          have h4 := wpOp_put hoj hap (fun cs b => hsel i oi cs b hi) (fun cs b => hsel j oj cs b hoj) (fun c a w h => absurd h (hQ c _ w)) hp (hw w hC)
          refine wpOp_mono (fun a' w' ⟨hy', C', hs, hC', hk⟩ => ⟨C', hs, hC', ?_⟩) h4
          rw [← Array.setIfInBounds_comm _ _ hji] at hk
          exact ih C' (listed.setIfInBounds j true) a' (inv.set hj) hfree' (ready_mono hr (Ne.symm hji)) (by
            rcases hy' with ⟨h1, h2⟩ | h1
            · exact .inl ⟨h1, fun w _ => by unfold Oper.quietAt; rw [h2 w]; exact ⟨rfl, rfl⟩⟩
            · exact .inr h1) (.inl hy') hk
        · obtain ⟨fl, hwt⟩ := hp j hl hjun
          have := waitsB_ready inv hwt hj
          rw [getDb hiun] at this
          cases this
        · rcases hpg j hl hjun with hgj | ⟨fl, hwt⟩
          · refine .inl ⟨hl, fun w hC => ?_⟩
            have h4 := wpOp_putIf (S := C) hoj hap (fun cs b => hsel i oi cs b hi) (fun cs b => hsel j oj cs b hoj) (fun c a w h => absurd h (hQ c _ w)) hp (hw w hC)
            refine wpOp_mono (fun a' w' ⟨hy', C', hs, hC', hk⟩ => ⟨C', hs, hC', ?_⟩) h4
            rw [← Array.setIfInBounds_comm _ _ hji] at hk
            have hy2 : YieldsIf P ops C' oi v a' := by
              rcases hy' with ⟨h1, h2⟩ | h1
              · exact .inl ⟨h1, fun w hw => h2 w (hs hgj w hw)⟩
              · exact .inr h1
            exact ih C' (listed.setIfInBounds j true) a' (inv.set hj) hfree' (ready_mono hr (Ne.symm hji)) (by
              rcases hy2 with ⟨h1, h2⟩ | h1
              · exact .inl ⟨h1, fun w hw => by unfold Oper.quietAt; rw [h2 w hw]; exact ⟨rfl, rfl⟩⟩
              · exact .inr h1) (.inr (.inr ⟨hy2, fun k hk hun => hpg k hk (hun' k hun)⟩)) hk
          · have := waitsB_ready inv hwt hj
            rw [getDb hiun] at this
            cases this
      · have : oj' = oj := Option.some.inj (hoj'.symm.trans hoj)
        subst this
        have hyj' : YieldsIn P ops C oj' u a := hyj.of_same (execOp_put oj' (fun cs b => hsel j oj' cs b hoj) a oi.dst v h1).symm (wanted_put oj' a oi.dst v h1).symm
        refine .inr ⟨hl, oj', u, hoj, hyj', ?_⟩
        refine ih C (listed.setIfInBounds j true) (a.put oj'.dst u) (inv.set hj) hfree' (ready_mono hr (Ne.symm hji))
          (hy.of_same (execOp_put oi (fun cs b => hsel i oi cs b hi) a oj'.dst u h3) (wanted_put oi a oj'.dst u h3)) ?_ ?_
        · rcases hp with hp | hp | ⟨hp, hpg⟩
          · exact .inl (hp.of_same (execOp_put oi (fun cs b => hsel i oi cs b hi) a oj'.dst u h3) (wanted_put oi a oj'.dst u h3))
          · exact .inr (.inl fun k hk hun => hp k hk (hun' k hun))
          · exact .inr (.inr ⟨hp.of_same (execOp_put oi (fun cs b => hsel i oi cs b hi) a oj'.dst u h3) (wanted_put oi a oj'.dst u h3), fun k hk hun => hpg k hk (hun' k hun)⟩)
        · rw [Array.setIfInBounds_comm _ _ hji, ← Act.put_comm a v u h2]
          exact hgj
def isLd : Op → Bool
  | .load .. => true
  | _ => false
theorem yieldsIn_ld {C : World → Prop} {o : Oper} {v : Value} {a : Act} (hl : isLd o.op = true) (h : YieldsIn P ops C o v a) : YieldsIf P ops C o v a := by
  rcases h with ⟨h1, h2⟩ | h1
  · refine .inl ⟨h1, fun w hw => ?_⟩
    have h3 := h2 w hw
    unfold Oper.quietAt at h3
    obtain ⟨dst, op, ty, pos, aft, g⟩ := o
    cases op <;> try (cases hl; done)
    rename_i t x
    simp only [execOp, Sem.run_bind] at h3 ⊢
    cases hr : (Instr.loadAt t (a.eval x)).run P w with
    | ok u w' =>
      rw [hr] at h3
      simp only [Result.andThen_ok, Sem.run_pure] at h3 ⊢
      obtain ⟨h4, h5⟩ := h3
      rw [h4, h5]
    | halt y w' => rw [hr] at h3; exact absurd h3 (by simp [Result.andThen, Oper.quietUpon])
  · exact .inr h1
def lexK (md : Region.Mode) (ops : Array Oper) (loud gro : Nat → Bool) : List Nat → Nat → Array Bool → Bool
  | [], _, listed => (Region.ready md ops listed).isEmpty
  | 0 :: ks, k, listed => !loud k && (Region.ready md ops listed).contains k && Region.free md ops listed k && lexK md ops loud gro ks (k + 1) (listed.setIfInBounds k true)
  | 1 :: ks, k, listed => !loud k && (Region.ready md ops listed).contains k && Region.free md ops listed k && ((List.range ops.size).all fun j => !loud j || listed.getD j true || (gro j && (match ops[k]? with | some o => isLd o.op | none => false)) || waitsB md ops k ops.size j) && lexK md ops loud gro ks (k + 1) (listed.setIfInBounds k true)
  | (c + 2) :: ks, k, listed => loud k && (gro k == !(Nat.beq c 0)) && decide (Region.ready md ops listed = [k]) && lexK md ops loud gro ks (k + 1) (listed.setIfInBounds k true)
def loudOf (ks : List Nat) (j : Nat) : Bool := match ks[j]? with | some k => Nat.ble 2 k | none => false
def groOf (ks : List Nat) (j : Nat) : Bool := match ks[j]? with | some k => Nat.ble 3 k | none => false
def drawB (ks : List Nat) (ops : Array Oper) : Bool := Region.noSelect ops && Nat.beq ks.length ops.size && lexK .any ops (loudOf ks) (groOf ks) ks 0 (Array.replicate ops.size false)
theorem LX.gx {loud gro : Nat → Bool} (hs : Region.noSelect ops = true) (hQ : ∀ c a w, ¬ Q (.panic c) a w) : ∀ (ks : List Nat) (l : List Oper) (k : Nat) (listed : Array Bool) (a : Act) (C : World → Prop), ks.length = l.length → (∀ j, l[j]? = ops[k + j]?) → (∀ j, ops.size ≤ j → loud j = false) →
    Closed md ops listed → lexK md ops loud gro ks k listed = true → LX P ops Q (zipK ks l) a C → GX P md ops Q loud gro C l.length listed a
  | [], [], k, listed, a, C, _, _, _, inv, hB, h => ⟨by simpa [lexK] using hB, h⟩
  | [], _ :: _, _, _, _, _, hlen, _, _, _, _, _ => by simp at hlen
  | _ :: _, [], _, _, _, _, hlen, _, _, _, _, _ => by simp at hlen
  | 0 :: ks, o :: l, k, listed, a, C, hlen, hl, hlo, inv, hB, h => by
    have h0 : ops[k]? = some o := by simpa using (hl 0).symm
    simp only [lexK, Bool.and_eq_true, Bool.not_eq_true'] at hB
    obtain ⟨⟨⟨hlk, hr⟩, hf⟩, hB'⟩ := hB
    have hr' : k ∈ Region.ready md ops listed := by simpa using hr
    obtain ⟨v, hy, hk⟩ : ∃ v, Yields P ops o v a ∧ LX P ops Q (zipK ks l) (a.put o.dst v) C := h
    have hyi : YieldsIn P ops C o v a := by
      rcases hy with ⟨h1, h2⟩ | h1
      · exact .inl ⟨h1, fun w _ => by unfold Oper.quietAt; rw [h2 w]; exact ⟨rfl, rfl⟩⟩
      · exact .inr h1
    exact GX.first h0 (Region.noSelect_spec hs) hQ hlk l.length C listed a inv (Region.free_spec h0 hf) hr' hyi (.inl hy)
      (LX.gx hs hQ ks l (k + 1) _ _ C (by simpa using hlen) (fun j => by have := hl (j + 1); simpa [Nat.add_assoc, Nat.add_comm 1 j] using this) hlo (inv.set hr') hB' hk)
  | 1 :: ks, o :: l, k, listed, a, C, hlen, hl, hlo, inv, hB, h => by
    have h0 : ops[k]? = some o := by simpa using (hl 0).symm
    simp only [lexK, Bool.and_eq_true, Bool.not_eq_true'] at hB
    obtain ⟨⟨⟨⟨hlk, hr⟩, hf⟩, hw⟩, hB'⟩ := hB
    have hr' : k ∈ Region.ready md ops listed := by simpa using hr
    obtain ⟨v, hy, hk⟩ : ∃ v, YieldsIn P ops C o v a ∧ LX P ops Q (zipK ks l) (a.put o.dst v) C := h
    have hall : ∀ j, loud j = true → listed.getD j true = false → (gro j = true ∧ isLd o.op = true) ∨ waitsB md ops k ops.size j = true := fun j hj hun => by
      have hjs : j < ops.size := by
        rcases Nat.lt_or_ge j ops.size with h' | h'
        · exact h'
        · rw [hlo j h'] at hj; cases hj
      have := List.all_eq_true.1 hw j (List.mem_range.2 hjs)
      simp only [Bool.or_eq_true, Bool.not_eq_true', hj, hun, h0, Bool.and_eq_true] at this
      rcases this with ((h' | h') | h') | h'
      · cases h'
      · cases h'
      · exact .inl h'
      · exact .inr h'
    refine GX.first h0 (Region.noSelect_spec hs) hQ hlk l.length C listed a inv (Region.free_spec h0 hf) hr' hy ?_
      (LX.gx hs hQ ks l (k + 1) _ _ C (by simpa using hlen) (fun j => by have := hl (j + 1); simpa [Nat.add_assoc, Nat.add_comm 1 j] using this) hlo (inv.set hr') hB' hk)
    cases hld : isLd o.op with
    | true =>
      refine .inr (.inr ⟨yieldsIn_ld hld hy, fun j hj hun => ?_⟩)
      rcases hall j hj hun with h | h
      · exact .inl h.1
      · exact .inr ⟨ops.size, h⟩
    | false =>
      refine .inr (.inl fun j hj hun => ⟨ops.size, ?_⟩)
      rcases hall j hj hun with h | h
      · rw [hld] at h; cases h.2
      · exact h
  | (c + 2) :: ks, o :: l, k, listed, a, C, hlen, hl, hlo, inv, hB, h => by
    have h0 : ops[k]? = some o := by simpa using (hl 0).symm
    simp only [lexK, Bool.and_eq_true, decide_eq_true_eq] at hB
    obtain ⟨⟨⟨hlk, hgk⟩, hr⟩, hB'⟩ := hB
    have hr' : k ∈ Region.ready md ops listed := by rw [hr]; simp
    have h' : ∀ w, C w → lop P ops Q o (fun a' w' => ∃ C' : World → Prop, (c ≠ 0 → ∀ w, C' w → C w) ∧ C' w' ∧ LX P ops Q (zipK ks l) a' C') a w := h
    have hc : gro k = true → c ≠ 0 := fun hg hc => by
      rw [hg, hc] at hgk
      cases hgk
    refine ⟨fun he => (by rw [hr] at he; cases he), fun j hj => ?_⟩
    rw [hr] at hj
    have hjk : j = k := by simpa using hj
    subst hjk
    refine .inl ⟨hlk, fun w hC => ?_⟩
    have hlop := h' w hC
    have hwp : wpOp P ops Q j (fun a' w' => ∃ C' : World → Prop, (c ≠ 0 → ∀ w, C' w → C w) ∧ C' w' ∧ LX P ops Q (zipK ks l) a' C') a w := by
      unfold wpOp
      simp only [h0]
      unfold lop at hlop
      split
      · rename_i hg; rw [if_pos hg] at hlop; exact .inl hlop
      · rename_i hg; rw [if_neg hg] at hlop; exact hlop
    refine wpOp_mono (fun a' w' ⟨C', hsub, hC', hk⟩ => ⟨C', fun hg => hsub (hc hg), hC', ?_⟩) hwp
    exact LX.gx hs hQ ks l (j + 1) _ _ C' (by simpa using hlen) (fun i => by have := hl (i + 1); simpa [Nat.add_assoc, Nat.add_comm 1 i] using this) hlo (inv.set hr') hB' hk
end
def kd (lc lw : List Nat) (i : Nat) : Op → Nat
  | .move _ | .assign _ | .pick .. | .binOp .. | .unOp .. | .convert .. | .fieldAddr .. | .indexAddr .. | .field .. | .extract .. | .makeFunc .. | .build .. | .index .. | .slice .. => 0
  | .load .. | .lookup .. => 1
  | .call ⟨.builtin .len, _, _⟩ => match lc.contains i with | true => 1 | false => 0
  | .buildSlice .. | .alloc .. | .box .. | .makeSlice .. => 3
  | .call ⟨.builtin .min, _, _⟩ | .call ⟨.builtin .max, _, _⟩ => 0
  | .call ⟨.builtin _, _, _⟩ => 2
  | .call _ => match lw.contains i with | true => 2 | false => match lc.contains i with | true => 3 | false => 1
  | _ => 2
def kindsOf (lc lw : List Nat) : Nat → List Oper → List Nat
  | _, [] => []
  | i, o :: l => kd lc lw i o.op :: kindsOf lc lw (i + 1) l
def drawK (K : Exit → Fr → List Heap → Prop) : Exit → Fr → List Heap → Prop
  | .normal, f, L => K .normal f L
  | _, _, _ => False
theorem drawK.nn {K : Exit → Fr → List Heap → Prop} {f : Fr} {L : List Heap} (h : K .normal f L) : drawK K .normal f L := h
theorem JC.draw {P : Program} {n : Nat} {w0 : World} {R : Heap} {K : Exit → Fr → List Heap → Prop} {f : Fr} {L : List Heap} {id : Nat} {l : List Oper} (ks : List Nat) (hm : P.follows .mixedOrders = true) (hB : drawB ks l.toArray = true)
    (h : J P n w0 R l (drawK K) (zipK ks l) f L) : JC P n w0 R (.region id l.toArray true) K f L := fun a w ha hw => by
  simp only [drawB, Bool.and_eq_true] at hB
  obtain ⟨⟨hs, hlen⟩, hlex⟩ := hB
  have hlen' := Nat.eq_of_beq_eq_true hlen
  refine wp_mono (Q := QW n w0 R (drawK K)) (wp_region_any hm ?_) (fun e a w q => q.mono fun e f L hk => by cases e <;> first | exact hk | exact hk.elim)
  have hl := h a ha
  have inv0 : Closed .any l.toArray (Array.replicate l.toArray.size false) := ⟨by simp, fun j oj _ hl => (by rw [show (Array.replicate l.toArray.size false).getD j false = false from by rcases Nat.lt_or_ge j l.toArray.size with h | h <;> simp_all] at hl; cases hl)⟩
  have := (LX.gx (md := .any) hs (fun c a w q => by obtain ⟨_, _, _, _, hk⟩ := q; exact hk) ks l 0 _ a _ (by simpa using hlen') (by simp) (fun j hj => by
    unfold loudOf
    rw [List.getElem?_eq_none (by omega)]) inv0 hlex hl).any _ (hw.drew (w.drawn + 1))
  simpa using this
theorem JC.drawA {P : Program} {n : Nat} {w0 : World} {R : Heap} {K : Exit → Fr → List Heap → Prop} {f : Fr} {L : List Heap} {id : Nat} {l : List Oper} (lc : List Nat) (hm : P.follows .mixedOrders = true) (hB : drawB (kindsOf lc [] 0 l) l.toArray = true)
    (h : J P n w0 R l (drawK K) (zipK (kindsOf lc [] 0 l) l) f L) : JC P n w0 R (.region id l.toArray true) K f L := JC.draw _ hm hB h
theorem JC.drawW {P : Program} {n : Nat} {w0 : World} {R : Heap} {K : Exit → Fr → List Heap → Prop} {f : Fr} {L : List Heap} {id : Nat} {l : List Oper} (lc lw : List Nat) (hm : P.follows .mixedOrders = true) (hB : drawB (kindsOf lc lw 0 l) l.toArray = true)
    (h : J P n w0 R l (drawK K) (zipK (kindsOf lc lw 0 l) l) f L) : JC P n w0 R (.region id l.toArray true) K f L := JC.draw _ hm hB h
end Go.Cx
