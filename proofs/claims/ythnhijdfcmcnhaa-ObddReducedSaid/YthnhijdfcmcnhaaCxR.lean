/-
  How arguments read: a type's values as values of Lean, with what is known of the memory behind them.
-/
import Derived.Test.YthnhijdfcmcnhaaCxM
import Derived.ProofKit
import Derived.OpenShut
import Derived.ShutString
import Derived.ChangeOld
import Derived.ChangeMaps5
import Derived.LaidMore
import Derived.Stop.Joined
import Derived.Deep.Slices
namespace Go.Cx
open Go Go.RowKit Go.ChangeShapes Go.WideShapes
set_option linter.unusedVariables false
set_option linter.unusedSimpArgs false

/-- all blocks of a world -/
def heapOf (w : World) : Heap := (List.range w.heap.size).filterMap fun b => (w.heap[b]?).map fun o => (b, o)
theorem mem_heapOf {w : World} {b : Nat} {o : Obj} (h : w.heap[b]? = some o) : (b, o) ∈ heapOf w := by
  have hb : b < w.heap.size := (Array.getElem?_eq_some_iff.1 h).1
  exact List.mem_filterMap.2 ⟨b, List.mem_range.2 hb, by rw [h]; rfl⟩
theorem heapOf_holds (w : World) : Holds (heapOf w) w := by
  intro x hx
  obtain ⟨b, _, hb⟩ := List.mem_filterMap.1 hx
  cases h : w.heap[b]? with
  | none => rw [h] at hb; cases hb
  | some o => rw [h] at hb; simp only [Option.map_some, Option.some.injEq] at hb; subst hb; exact h

/-- how a type reads: by 'enc', with 'good' -/
def Reads {α : Type} (P : Program) (w : World) (t : TypeId) (enc : α → List Value) (good : α → Prop) : Prop :=
  ∀ (A : Type) (ec : TypeId × Value → A) (base : Nat) (spare : Nat → Bool) (held : Bool) (fuel : Nat) (cs : List Value) (x : DataW A × List MemPlace), DataW.trod ec P w base spare held fuel t cs = some x → ∃ u : α, cs = enc u ∧ good u

section
variable {P : Program} {w : World} {t e : TypeId}
theorem reads_int {k : IntKind} (ht : P.underlying t = some (.int k)) : Reads P w t (fun n : Int => [.int k n]) (fun n => (Lit.int k n).wf = true) := by
  intro A ec base spare held fuel cs x h
  obtain ⟨n, h1, _, h2⟩ := DataW.trod_int ht h
  exact ⟨n, h1, h2⟩
theorem reads_bool (ht : P.underlying t = some .bool) : Reads P w t (fun b : Bool => [.bool b]) (fun _ => True) := by
  intro A ec base spare held fuel cs x h
  obtain ⟨b, h1, _⟩ := DataW.trod_bool ht h
  exact ⟨b, h1, trivial⟩
theorem reads_string (ht : P.underlying t = some .string) : Reads P w t (fun l : List UInt8 => [.string (S l)]) (fun l => l.length ≤ maxLen) := by
  intro A ec base spare held fuel cs x h
  obtain ⟨s, h1, _, h2⟩ := DataW.trod_string ht h
  refine ⟨s.data.toList, ?_, ?_⟩
  · rw [h1]; rfl
  · simpa using h2
theorem Reads.map {α β : Type} {enc : α → List Value} {good : α → Prop} {enc' : β → List Value} {good' : β → Prop} (h : Reads P w t enc good) (g : α → β) (hg : ∀ u, good u → enc u = enc' (g u) ∧ good' (g u)) : Reads P w t enc' good' := by
  intro A ec base spare held fuel cs x hx
  obtain ⟨u, h1, h2⟩ := h A ec base spare held fuel cs x hx
  obtain ⟨h3, h4⟩ := hg u h2
  exact ⟨g u, h1.trans h3, h4⟩

/-- a slice as a value -/
structure Sl (α : Type) where
  a : Option Addr
  cap : Nat
  ts : List α
instance {α : Type} : Inhabited (Sl α) := ⟨⟨none, 0, []⟩⟩
def encSl {α : Type} (t : Sl α) : List Value := [.slice t.a t.ts.length t.cap]
structure GoodSl {α : Type} (w : World) (enc : α → List Value) (size : Nat) (good : α → Prop) (u : Sl α) : Prop where
  sl : SlT enc size u.a u.ts (heapOf w)
  all : ∀ x, x ∈ u.ts → good x
  cap : u.ts.length ≤ u.cap ∧ u.cap ≤ maxLen

theorem cell_block {w : World} {b off : Nat} {v : Value} (h : w.cell? ⟨b, off, none⟩ = some v) : ∃ (c : List Value) (e : TypeId) (fr : Nat × Nat), w.heap[b]? = some (.cells ⟨c⟩ e fr) ∧ c[off]? = some v := by
  unfold World.cell? at h
  simp only at h
  split at h
  · rename_i c e fr hb
    obtain ⟨c⟩ := c
    exact ⟨c, e, fr, hb, by simpa using h⟩
  · cases h
theorem cells_row {w : World} {base b off n : Nat} {cs : List Value} (h : w.cells? base ⟨b, off, none⟩ n = some cs) (hn : 0 < n) : ∃ (c : List Value) (e : TypeId) (fr : Nat × Nat), w.heap[b]? = some (.cells ⟨c⟩ e fr) ∧ off + n ≤ c.length ∧ (c.drop off).take n = cs := by
  obtain ⟨_, hl, hi⟩ := World.cells?_some h
  have hadd : ∀ i, (⟨b, off, none⟩ : Addr).add i = ⟨b, off + i, none⟩ := fun i => by
    unfold Addr.add
    split
    · rename_i h0; rw [h0]; rfl
    · rfl
  have h0 := hi 0 hn
  rw [hadd, List.getElem?_eq_getElem (by omega)] at h0
  obtain ⟨c, e, fr, hb, hc⟩ := cell_block h0
  have hall : ∀ i, i < n → c[off + i]? = cs[i]? := fun i hin => by
    have hx := hi i hin
    rw [hadd, List.getElem?_eq_getElem (by omega)] at hx
    obtain ⟨c', e', fr', hb', hc'⟩ := cell_block hx
    rw [hb] at hb'
    have : c = c' := by
      simp only [Option.some.injEq, Obj.cells.injEq, Array.mk.injEq] at hb'
      exact hb'.1
    subst this
    rw [hc', List.getElem?_eq_getElem (by omega)]
  have hlast := hall (n - 1) (by omega)
  rw [List.getElem?_eq_getElem (show n - 1 < cs.length by omega)] at hlast
  have hle := (List.getElem?_eq_some_iff.1 hlast).1
  refine ⟨c, e, fr, hb, by omega, ?_⟩
  apply List.ext_getElem?
  intro i
  by_cases hin : i < n
  · rw [List.getElem?_take_of_lt hin, List.getElem?_drop, hall i hin]
  · rw [List.getElem?_eq_none (by rw [List.length_take]; omega), List.getElem?_eq_none (by omega)]

theorem reads_slice {α : Type} {enc : α → List Value} {good : α → Prop} {size : Nat} (ht : P.underlying t = some (.slice e)) (hc : P.cellsOf e = size) (h0 : 0 < size) (hE : ∀ u, (enc u).length = size) (he : Reads P w e enc good) : Reads P w t (encSl (α := α)) (GoodSl w enc size good) := by
  intro A ec base spare held fuel cs x h
  rcases Go.Deep.open_slice ht h with ⟨rfl, _⟩ | ⟨a, len, cap, m, n, D, Pl, rfl, hb, hl, hm, hmm, hx, hi⟩
  · exact ⟨⟨none, 0, []⟩, rfl, ⟨⟨hE, fun i hi => by simp at hi⟩, fun x hx => by simp at hx, Nat.le_refl _, Nat.zero_le _⟩⟩
  have hlm : len ≤ m := by rw [hmm]; split <;> omega
  have hel : ∀ i, i < len → ∃ u : α, w.cells? base (a.add (i * size)) size = some (enc u) ∧ good u := fun i hil => by
    obtain ⟨cs', h1, h2⟩ := hi i (by omega)
    obtain ⟨u, rfl, hu⟩ := he A ec base spare held n cs' _ h2
    rw [hc] at h1
    exact ⟨u, h1, hu⟩
  obtain ⟨f, hf⟩ : ∃ f : Nat → Option α, ∀ i, i < len → ∃ u, f i = some u ∧ w.cells? base (a.add (i * size)) size = some (enc u) ∧ good u := by
    have : ∀ i, ∃ o : Option α, i < len → ∃ u, o = some u ∧ w.cells? base (a.add (i * size)) size = some (enc u) ∧ good u := fun i => by
      by_cases hil : i < len
      · obtain ⟨u, h1, h2⟩ := hel i hil
        exact ⟨some u, fun _ => ⟨u, rfl, h1, h2⟩⟩
      · exact ⟨none, fun h => absurd h hil⟩
    exact ⟨fun i => (this i).choose, fun i => (this i).choose_spec⟩
  have hall : ∀ m, m ≤ len → ∃ us : List α, us.length = m ∧ ∀ i (hi : i < us.length), f i = some us[i] := fun m => by
    induction m with
    | zero => exact fun _ => ⟨[], rfl, fun i hi => by simp at hi⟩
    | succ m ih =>
      intro hml
      obtain ⟨us, h1, h2⟩ := ih (by omega)
      obtain ⟨u, h3, _⟩ := hf m (by omega)
      refine ⟨us ++ [u], by simp [h1], fun i hi => ?_⟩
      by_cases hlt : i < us.length
      · rw [List.getElem_append_left hlt]; exact h2 i hlt
      · have : i = us.length := by simp at hi; omega
        subst this
        rw [List.getElem_append_right (Nat.le_refl _)]
        simp only [Nat.sub_self, List.getElem_cons_zero]
        rw [h1]; exact h3
  obtain ⟨us, hul, hus⟩ := hall len (Nat.le_refl _)
  have hus' : ∀ i (hi : i < us.length), w.cells? base (a.add (i * size)) size = some (enc us[i]) ∧ good us[i] := fun i hi => by
    obtain ⟨u, h1, h2, h3⟩ := hf i (by omega)
    rw [hus i hi] at h1
    obtain rfl := Option.some.inj h1
    exact ⟨h2, h3⟩
  refine ⟨⟨some a, cap, us⟩, by rw [encSl]; simp only [hul], ⟨⟨hE, fun i hi => ?_⟩, fun x hx => ?_, by simp only [hul]; exact hl, hm⟩⟩
  · obtain ⟨h1, _⟩ := hus' i hi
    obtain ⟨b, off, spot⟩ := a
    have hsp : spot = none := by
      obtain ⟨h2, _⟩ := hus' 0 (by simp only at hi ⊢; omega)
      obtain ⟨_, hl0, h3⟩ := World.cells?_some h2
      have h4 := h3 0 h0
      rw [List.getElem?_eq_getElem (by omega), Nat.zero_mul] at h4
      have h5 := World.cell?_spot h4
      simpa [Addr.add] using h5
    subst hsp
    have hadd : (⟨b, off, none⟩ : Addr).add (i * size) = ⟨b, off + i * size, none⟩ := by
      unfold Addr.add
      split
      · rename_i h0; rw [h0]; rfl
      · rfl
    rw [hadd] at h1
    obtain ⟨c, e', fr, h2, h3, h4⟩ := cells_row h1 h0
    exact ⟨b, off, c, e', fr, rfl, mem_heapOf h2, by rw [Nat.add_mul, Nat.one_mul]; omega, h4⟩
  · obtain ⟨i, hi, rfl⟩ := List.mem_iff_getElem.1 hx
    exact (hus' i hi).2

/-- an array of two -/
theorem reads_array2 {α : Type} {enc : α → List Value} {good : α → Prop} {size : Nat} (ht : P.underlying t = some (.array 2 e)) (hc : P.cellsOf e = size) (hc2 : P.cellsOf t = 2 * size) (he : Reads P w e enc good) : Reads P w t (fun p : α × α => enc p.1 ++ enc p.2) (fun p => good p.1 ∧ good p.2) := by
  intro A ec base spare held fuel cs x h
  obtain ⟨xs, m, _, _, hl, hn, hi⟩ := DataW.trod_array ht h
  have g0 := hi 0 (by omega)
  have g1 := hi 1 (by omega)
  rw [List.getElem?_eq_getElem (by omega)] at g0 g1
  obtain ⟨u0, e0, k0⟩ := he A ec base spare held m _ _ g0
  obtain ⟨u1, e1, k1⟩ := he A ec base spare held m _ _ g1
  refine ⟨(u0, u1), ?_, k0, k1⟩
  simp only
  rw [← e0, ← e1, hc, Nat.zero_mul, List.drop_zero, Nat.one_mul, List.take_of_length_le (l := cs.drop size) (by rw [List.length_drop]; omega), List.take_append_drop]

/-- the parts of a struct -/
theorem reads_parts {fs : Array Field} (ht : P.underlying t = some (.struct fs)) {A : Type} {ec : TypeId × Value → A} {base : Nat} {spare : Nat → Bool} {held : Bool} {fuel : Nat} {cs : List Value} {x : DataW A × List MemPlace} (h : DataW.trod ec P w base spare held fuel t cs = some x) :
    cs.length = P.cellsOf t ∧ ∀ (i off : Nat) {ft : TypeId} {sz : Nat} {α : Type} {enc : α → List Value} {good : α → Prop}, (fs[i]?).map (fun f => (f.type, f.offset)) = some (ft, off) → P.cellsOf ft = sz → Reads P w ft enc good → ∃ u, (cs.drop off).take sz = enc u ∧ good u := by
  obtain ⟨xs, m, _, _, hl, hn, hi⟩ := DataW.trod_struct ht h
  refine ⟨hl, fun i off ft sz α enc good hf hz hr => ?_⟩
  cases hf' : fs[i]? with
  | none => rw [hf'] at hf; cases hf
  | some f =>
    rw [hf'] at hf
    simp only [Option.map_some, Option.some.injEq, Prod.mk.injEq] at hf
    obtain ⟨rfl, rfl⟩ := hf
    subst hz
    have h1 := hi i f hf'
    have hil : i < fs.size := (Array.getElem?_eq_some_iff.1 hf').1
    rw [List.getElem?_eq_getElem (by omega)] at h1
    exact hr A ec base spare held m _ _ h1

/-- An argument whose type is a slice. -/
theorem arg_slice {α : Type} {enc : α → List Value} {good : α → Prop} {size : Nat} {r : Reach} {b0 : Nat} {v : Value} {A : Type} {ec : TypeId × Value → A} {base : Nat} {spare : Nat → Bool} {held : Bool} {d : DataW A} {ps : List MemPlace}
    (ht : P.underlying t = some (.slice e)) (hr : Reads P w t (encSl (α := α)) (GoodSl w enc size good)) (hv : Value.okWide P w r b0 t v) (h : DataW.Trod ec P w base spare held t v d ps) : ∃ u : Sl α, v = .slice u.a u.ts.length u.cap ∧ GoodSl w enc size good u := by
  obtain ⟨a, len, cap, rfl⟩ := okWide_slice ht hv
  obtain ⟨fuel, h⟩ := h
  obtain ⟨u, h1, h2⟩ := hr A ec base spare held fuel _ _ h
  refine ⟨u, ?_, h2⟩
  simpa [Value.cells, encSl] using h1
theorem arg_agg {α : Type} {enc : α → List Value} {good : α → Prop} {v : Value} {A : Type} {ec : TypeId × Value → A} {base : Nat} {spare : Nat → Bool} {held : Bool} {d : DataW A} {ps : List MemPlace}
    (hag : ∃ cs, v = .agg cs) (hr : Reads P w t enc good) (h : DataW.Trod ec P w base spare held t v d ps) : ∃ u : α, v = .agg ⟨enc u⟩ ∧ good u := by
  obtain ⟨cs, rfl⟩ := hag
  obtain ⟨fuel, h⟩ := h
  obtain ⟨u, h1, h2⟩ := hr A ec base spare held fuel _ _ h
  refine ⟨u, ?_, h2⟩
  have : cs.toList = enc u := h1
  rw [← this]
theorem okWide_arr {n : Nat} {r : Reach} {b0 : Nat} {v : Value} (ht : P.underlying t = some (.array n e)) (h : Value.okWide P w r b0 t v) : ∃ cs, v = .agg cs := by
  simp only [Value.okWide, ht] at h
  obtain ⟨cs, h1, _⟩ := h
  exact ⟨cs, h1⟩
theorem Fits.und {Γ : List (Nat × TI)} (hΓ : Fits P Γ) {ti : TI} (h : look Γ t = some ti) : P.underlying t = some ti.desc := (hΓ t _ h).1
theorem Fits.cells {Γ : List (Nat × TI)} (hΓ : Fits P Γ) {ti : TI} (h : look Γ t = some ti) : P.cellsOf t = ti.size := by
  obtain ⟨_, i, h1, h2, _⟩ := hΓ t _ h
  unfold Program.cellsOf
  rw [h1, ← h2]
  rfl
end

/-- All arguments read on as they did. -/
theorem trodAll_below {A : Type} {ec : TypeId × Value → A} {P : Program} (hl : laidOutB P = true) {w w' : World} (hb : Below w.heap.size w w') : ∀ {ts : List TypeId} {vs : List Value} {ds : List (DataW A)} {ps : List MemPlace}, (ts.all fun t => P.readableRec t && decide (t < P.types.size)) = true →
    DataW.TrodAll ec P w 0 (fun _ => true) true ts vs ds ps → ∃ qs, DataW.TrodAll ec P w' 0 (fun b => decide (b < w.heap.size)) true ts vs ds qs
  | [], [], [], ps, _, _ => ⟨[], rfl⟩
  | t :: ts, v :: vs, d :: ds, ps, hr, h => by
    obtain ⟨p, q, h1, h2, _⟩ := h
    rw [List.all_cons, Bool.and_eq_true, Bool.and_eq_true] at hr
    obtain ⟨qs, h3⟩ := trodAll_below hl hb hr.2 h2
    have lt0 : ∀ x ∈ p, x.block < w.heap.size := by obtain ⟨m, hm⟩ := h1; exact DataW.trod_lt m _ _ _ hm
    exact ⟨p ++ qs, p, qs, Below.trod hl hr.1.1 (of_decide_eq_true hr.1.2) h1 hb lt0, h3, rfl⟩
  | [], _ :: _, _, _, _, h => h.elim
  | [], [], _ :: _, _, _, h => h.elim
  | _ :: _, [], _, _, _, h => h.elim
  | _ :: _, _ :: _, [], _, _, h => h.elim

/-- What a law's statement asks of a call, out of 'it returns true and has written nothing that was there'. -/
theorem law_post {A : Type} {ec : TypeId × Value → A} {P : Program} {fn : Func} {s : ChangeSpec} {tb : TypeId} {W : World} {args : Array Value} {ds gs : List (DataW A)} {before : List MemPlace} {e : Ending} {W' : World} (hl : laidOutB P = true) (hb : P.underlying tb = some .bool) (hr : fn.resultTypes = #[tb])
    (hp : (fn.params.toList.all fun t => P.readableRec t && decide (t < P.types.size)) = true) (hs : s.vars = []) (hfn : ∀ ds : List (DataW A), ds.length = fn.params.toList.length → s.fn A ds = { results := [.lit (.bool true)], args := ds })
    (hW : DataW.Whole ec P fn.params.toList s.vars false W args.toList ds gs before) (he : e = .returned (.bool true)) (bel : Below W.heap.size W W') : ∃ v, e = .returned v ∧ s.post ec P fn false true false false W args v W' := by
  subst he
  have hW' := hW
  obtain ⟨p, q, hA, hV, rfl, hfz, hnd⟩ := hW
  rw [hs] at hV
  obtain ⟨rfl, rfl⟩ := trodVars_none hV
  obtain ⟨qs, hq⟩ := trodAll_below hl bel hp hA
  have hlen : ds.length = fn.params.toList.length := by
    have : ∀ (ts : List TypeId) (vs : List Value) (ds : List (DataW A)) (ps : List MemPlace), DataW.TrodAll ec P W 0 (fun _ => true) true ts vs ds ps → ds.length = ts.length := by
      intro ts
      induction ts with
      | nil => intro vs ds ps h; cases vs <;> cases ds <;> first | rfl | exact h.elim
      | cons t ts ih =>
        intro vs ds ps h
        cases vs with
        | nil => exact h.elim
        | cons v vs =>
          cases ds with
          | nil => exact h.elim
          | cons d ds =>
            obtain ⟨p, q, _, h2, _⟩ := h
            simp [ih vs ds q h2]
    exact this _ _ _ _ hA
  have e1 := hfn ds hlen
  refine ⟨_, rfl, ds, [], p ++ [], [], qs, [], hW', ?_, ?_, ?_, bel.frame _, fun h => by cases h⟩
  · rw [List.append_nil, e1, hr]; exact trodAll_mk1 (shut_bool hb _)
  · rw [List.append_nil, e1]; exact hq
  · rw [List.append_nil, e1, hs]; rfl
end Go.Cx
