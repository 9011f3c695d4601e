/-
  A small proof layer over the walk's laws: a frame is a function from slots to values, memory of the call's own is a list of fragments, and worlds stay out of sight. This text: frames, fragments, what is known of memory.
-/
import Derived.WalkKit
import Derived.Below
import Derived.Deep.Quiet
namespace Go.Cx
open Go Go.RowKit
set_option linter.unusedVariables false
set_option linter.unusedSimpArgs false

/-! ### Frames -/
abbrev Fr := Nat → Value
def upd (f : Fr) (d : Nat) (v : Value) (i : Nat) : Value := bif Nat.beq i d then v else f i
def updO (f : Fr) : Option Tmp → Value → Fr
  | some d, v => upd f d v
  | none, _ => f
/-- What an operand is in a frame of n slots. -/
def ev (n : Nat) (f : Fr) : Operand → Value
  | .tmp t => bif Nat.blt t n then f t else undef
  | .const v => v
  | .global g => .pointer (some ⟨g, 0, none⟩)
  | .func g => .func (.func g) #[] #[]
def Rep (n : Nat) (f : Fr) (a : Act) : Prop := a.tmps.size = n ∧ a.defers = [] ∧ ∀ i, i < n → a.tmps[i]? = some (f i)

theorem upd_same (f : Fr) (d : Nat) (v : Value) : upd f d v d = v := by simp [upd]
theorem upd_ne (f : Fr) {d i : Nat} (v : Value) (h : i ≠ d) : upd f d v i = f i := by
  have : Nat.beq i d = false := by
    cases hb : Nat.beq i d
    · rfl
    · exact absurd (Nat.eq_of_beq_eq_true hb) h
  simp [upd, this]

theorem Rep.put {n : Nat} {f : Fr} {a : Act} (h : Rep n f a) (d : Option Tmp) (v : Value) : Rep n (updO f d v) (a.put d v) := by
  obtain ⟨h1, h2, h3⟩ := h
  cases d with
  | none => exact ⟨h1, h2, h3⟩
  | some d =>
    refine ⟨by simp [Act.put, h1], by simp [Act.put, h2], fun i hi => ?_⟩
    by_cases hd : i = d
    · subst hd
      simp only [Act.put, updO, upd_same]
      rw [Array.getElem?_setIfInBounds_self_of_lt (by omega)]
    · simp only [Act.put, updO, upd_ne f v hd]
      rw [Array.getElem?_setIfInBounds_ne (fun e => hd e.symm)]
      exact h3 i hi

theorem Rep.eval {n : Nat} {f : Fr} {a : Act} (h : Rep n f a) : a.eval = ev n f := by
  funext x
  cases x with
  | tmp t =>
    show a.tmps.getD t undef = _
    by_cases ht : t < n
    · have : Nat.blt t n = true := by simpa using ht
      simp only [ev, this, cond_true]
      rw [Array.getD_eq_getD_getElem?, h.2.2 t ht]
      rfl
    · have : Nat.blt t n = false := by
        cases hb : Nat.blt t n
        · rfl
        · exact absurd (by simpa using hb) ht
      simp only [ev, this, cond_false]
      rw [Array.getD_eq_getD_getElem?, Array.getElem?_eq_none (show a.tmps.size ≤ t by rw [h.1]; exact Nat.le_of_not_lt ht)]
      rfl
  | _ => rfl

/-- The slot that operation number j of a list writes. -/
def dstAt : List Oper → Nat → Option Tmp
  | [], _ => none
  | o :: _, 0 => o.dst
  | _ :: l, j + 1 => dstAt l j
theorem dstAt_eq (l : List Oper) (j : Nat) : (l.toArray[j]?).bind (·.dst) = dstAt l j := by
  induction l generalizing j with
  | nil => rfl
  | cons o l ih =>
    cases j with
    | zero => rfl
    | succ j => simpa [dstAt] using ih j

/-- Does the guard let the operation run? -/
def wantB (n : Nat) (f : Fr) (l : List Oper) (o : Oper) : Bool :=
  match o.guard with
  | none => true
  | some (j, b) =>
    match dstAt l j with
    | some d => bif Nat.blt d n then (match f d with | .bool c => c == b | _ => false) else false
    | none => false

theorem Rep.wanted {n : Nat} {f : Fr} {a : Act} (h : Rep n f a) (l : List Oper) (o : Oper) : Region.wanted o (yielded l.toArray a.tmps) = wantB n f l o := by
  unfold Region.wanted wantB
  cases o.guard with
  | none => rfl
  | some g =>
    obtain ⟨j, b⟩ := g
    simp only [yielded, dstAt_eq]
    cases dstAt l j with
    | none => simp
    | some d =>
      simp only [Option.bind_some]
      by_cases hd : d < n
      · have : Nat.blt d n = true := by simpa using hd
        simp only [this, cond_true, h.2.2 d hd]
        cases f d <;> simp
      · have : Nat.blt d n = false := by
          cases hb : Nat.blt d n
          · rfl
          · exact absurd (by simpa using hb) hd
        simp only [this, cond_false]
        rw [Array.getElem?_eq_none (show a.tmps.size ≤ d by rw [h.1]; exact Nat.le_of_not_lt hd)]
        simp

/-! ### Memory -/
abbrev Heap := List (Nat × Obj)
/-- The blocks of a fragment hold what it says. -/
def Holds (h : Heap) (w : World) : Prop := ∀ x, x ∈ h → w.heap[x.1]? = some x.2
/-- What is known of memory inside a call that began in w0: nothing that was there has changed; 'R' (a part of what was there) holds; the call's own blocks hold 'L'. -/
structure H (w0 : World) (R : Heap) (L : List Heap) (w : World) : Prop where
  below : Below w0.heap.size w0 w
  old : Holds R w0
  own : Holds L.flatten w
  new : ∀ x, x ∈ L.flatten → w0.heap.size ≤ x.1
  nodup : (L.flatten.map (·.1)).Nodup

theorem Holds.lt {h : Heap} {w : World} (hh : Holds h w) {x : Nat × Obj} (hx : x ∈ h) : x.1 < w.heap.size := (Array.getElem?_eq_some_iff.1 (hh x hx)).1
theorem Holds.mono {h h' : Heap} {w : World} (hh : Holds h w) (hs : ∀ x, x ∈ h' → x ∈ h) : Holds h' w := fun x hx => hh x (hs x hx)
theorem Holds.below {h : Heap} {w w' : World} (hh : Holds h w) (hb : Below w.heap.size w w') : Holds h w' := fun x hx => (hb.block _ (hh.lt hx)).trans (hh x hx)
theorem Holds.append {a b : Heap} {w : World} (ha : Holds a w) (hb : Holds b w) : Holds (a ++ b) w := fun x hx => (List.mem_append.1 hx).elim (ha x) (hb x)
theorem Holds.left {a b : Heap} {w : World} (h : Holds (a ++ b) w) : Holds a w := h.mono fun _ hx => List.mem_append_left _ hx
theorem Holds.right {a b : Heap} {w : World} (h : Holds (a ++ b) w) : Holds b w := h.mono fun _ hx => List.mem_append_right _ hx
theorem Holds.nil (w : World) : Holds [] w := fun _ hx => by cases hx

theorem H.start {w0 : World} {R : Heap} (h : Holds R w0) : H w0 R [] w0 := ⟨Below.refl _ _, h, Holds.nil _, fun _ hx => (by cases hx), List.nodup_nil⟩
theorem H.oldNow {w0 w : World} {R : Heap} {L : List Heap} (h : H w0 R L w) : Holds R w := fun x hx => (h.below.block _ (h.old.lt hx)).trans (h.old x hx)

/-- A draw turns nothing. -/
theorem H.drew {w0 w : World} {R : Heap} {L : List Heap} (h : H w0 R L w) (n : Nat) : H w0 R L { w with drawn := n } :=
  ⟨⟨h.below.os, h.below.tape, h.below.output, h.below.size, h.below.block⟩, h.old, h.own, h.new, h.nodup⟩

/-- A call that only makes memory. -/
theorem H.grow {w0 w w' : World} {R : Heap} {L : List Heap} (h : H w0 R L w) (hb : Below w.heap.size w w') : H w0 R L w' :=
  ⟨h.below.trans (hb.mono h.below.size), h.old, h.own.below hb, h.new, h.nodup⟩

theorem H.perm {w0 w : World} {R : Heap} {L L' : List Heap} (h : H w0 R L w) (hp : L.Perm L') : H w0 R L' w := by
  have hf := hp.flatten
  exact ⟨h.below, h.old, h.own.mono fun x hx => (hf.mem_iff).2 hx, fun x hx => h.new x ((hf.mem_iff).2 hx), ((hf.map _).nodup_iff).1 h.nodup⟩

/-- A fragment is let go. -/
theorem H.drop {w0 w : World} {R h1 : Heap} {L : List Heap} (h : H w0 R (h1 :: L) w) : H w0 R L w := by
  refine ⟨h.below, h.old, h.own.mono fun x hx => List.mem_append_right _ hx, fun x hx => h.new x (List.mem_append_right _ hx), ?_⟩
  have := h.nodup
  rw [List.flatten_cons, List.map_append] at this
  exact (List.nodup_append.1 this).2.1

/-- A call that makes memory and hands a part of it back. -/
theorem H.fresh {w0 w w' : World} {R h1 : Heap} {L : List Heap} (h : H w0 R L w) (hb : Below w.heap.size w w') (h1h : Holds h1 w') (h1n : ∀ x, x ∈ h1 → w.heap.size ≤ x.1) (h1d : (h1.map (·.1)).Nodup) : H w0 R (h1 :: L) w' := by
  have g := h.grow hb
  refine ⟨g.below, g.old, ?_, ?_, ?_⟩
  · exact h1h.append g.own
  · intro x hx
    rcases List.mem_append.1 hx with hx | hx
    · exact Nat.le_trans h.below.size (h1n x hx)
    · exact g.new x hx
  · rw [List.flatten_cons, List.map_append]
    refine List.nodup_append.2 ⟨h1d, g.nodup, ?_⟩
    intro a ha b hb' hab
    obtain ⟨x, hx, rfl⟩ := List.mem_map.1 ha
    obtain ⟨y, hy, rfl⟩ := List.mem_map.1 hb'
    have e1 := h1n x hx
    have e2 := h.own.lt hy
    omega

/-- A new block. -/
theorem H.alloc {w0 w : World} {R : Heap} {L : List Heap} (h : H w0 R L w) (o : Obj) : H w0 R ([(w.heap.size, o)] :: L) (w.alloc o) := by
  refine h.fresh ((Below.refl _ _).alloc (Nat.le_refl _) o) ?_ ?_ (by simp)
  · intro x hx
    simp only [List.mem_singleton] at hx
    subst hx
    show (w.heap.push o)[w.heap.size]? = some o
    simp
  · intro x hx
    simp only [List.mem_singleton] at hx
    subst hx
    exact Nat.le_refl _

/-- A block of the call's own is written. -/
theorem H.write {w0 w w' : World} {R : Heap} {L : List Heap} {g : Nat} {o o' : Obj} (h : H w0 R ([(g, o)] :: L) w) (hos : w'.os = w.os) (htape : w'.tape = w.tape) (hout : w'.output = w.output) (hsz : w'.heap.size = w.heap.size)
    (hg : w'.heap[g]? = some o') (hne : ∀ k, k ≠ g → w'.heap[k]? = w.heap[k]?) : H w0 R ([(g, o')] :: L) w' := by
  have hgB : w0.heap.size ≤ g := h.new (g, o) (by simp)
  have hnd : (g :: L.flatten.map (·.1)).Nodup := by simpa using h.nodup
  have hng : ∀ x, x ∈ L.flatten → x.1 ≠ g := fun x hx e => (List.nodup_cons.1 hnd).1 (List.mem_map.2 ⟨x, hx, e⟩)
  refine ⟨?_, h.old, ?_, ?_, ?_⟩
  · exact h.below.trans ⟨hos, htape, hout, by omega, fun k hk => hne k (by omega)⟩
  · intro x hx
    simp only [List.flatten_cons, List.mem_append, List.mem_singleton] at hx
    rcases hx with rfl | hx
    · exact hg
    · rw [hne _ (hng x hx)]
      exact h.own x (List.mem_append_right _ hx)
  · intro x hx
    simp only [List.flatten_cons, List.mem_append, List.mem_singleton] at hx
    rcases hx with rfl | hx
    · exact hgB
    · exact h.new x (List.mem_append_right _ hx)
  · simpa using hnd

/-- The k-th fragment brought to the front. -/
def bring {α : Type} : Nat → List α → List α
  | 0, L => L
  | k + 1, x :: L =>
    match bring k L with
    | y :: L' => y :: x :: L'
    | [] => [x]
  | _ + 1, [] => []
theorem bring_perm {α : Type} : ∀ (k : Nat) (L : List α), L.Perm (bring k L)
  | 0, _ => .refl _
  | _ + 1, [] => .refl _
  | k + 1, x :: L => by
    have ih := bring_perm k L
    show (x :: L).Perm (match bring k L with | y :: L' => y :: x :: L' | [] => [x])
    cases hb : bring k L with
    | nil => rw [hb] at ih; exact ih.cons x
    | cons y L' => rw [hb] at ih; exact (ih.cons x).trans (.swap y x L')

/-- A block that can be read. -/
def Rd (R : Heap) (L : List Heap) (g : Nat) (o : Obj) : Prop := (g, o) ∈ R ∨ (g, o) ∈ L.flatten
theorem H.rd {w0 w : World} {R : Heap} {L : List Heap} (h : H w0 R L w) {g : Nat} {o : Obj} (hr : Rd R L g o) : w.heap[g]? = some o :=
  hr.elim (fun hx => h.oldNow _ hx) (fun hx => h.own _ hx)
theorem Rd.hd {R : Heap} {L : List Heap} {g : Nat} {o : Obj} : Rd R ([(g, o)] :: L) g o := .inr (by simp)
theorem Rd.tl {R h : Heap} {L : List Heap} {g : Nat} {o : Obj} (hr : Rd R L g o) : Rd R (h :: L) g o := hr.imp id fun hx => List.mem_append_right _ hx
theorem Rd.fr {R h : Heap} {L : List Heap} {g : Nat} {o : Obj} (hx : (g, o) ∈ h) : Rd R (h :: L) g o := .inr (List.mem_append_left _ hx)
theorem Rd.old {R : Heap} {L : List Heap} {g : Nat} {o : Obj} (hx : (g, o) ∈ R) : Rd R L g o := .inl hx
/-- A fragment that can be read. -/
def RdH (R : Heap) (L : List Heap) (h : Heap) : Prop := ∀ x, x ∈ h → Rd R L x.1 x.2
theorem RdH.hd {R h : Heap} {L : List Heap} : RdH R (h :: L) h := fun _ hx => Rd.fr hx
theorem RdH.tl {R h h' : Heap} {L : List Heap} (hr : RdH R L h) : RdH R (h' :: L) h := fun x hx => (hr x hx).tl
theorem RdH.old {R h : Heap} {L : List Heap} (hs : ∀ x, x ∈ h → x ∈ R) : RdH R L h := fun x hx => Rd.old (hs x hx)
theorem RdH.nil {R : Heap} {L : List Heap} : RdH R L [] := fun _ hx => by cases hx
theorem RdH.append {R a b : Heap} {L : List Heap} (ha : RdH R L a) (hb : RdH R L b) : RdH R L (a ++ b) := fun x hx => (List.mem_append.1 hx).elim (ha x) (hb x)
theorem H.rdH {w0 w : World} {R h : Heap} {L : List Heap} (hH : H w0 R L w) (hr : RdH R L h) : Holds h w := fun x hx => hH.rd (hr x hx)
end Go.Cx
