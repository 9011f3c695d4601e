/- How arguments read, with the form's own reach: what is read takes fewer than 2^47 bytes. -/
import Derived.Test.YtncnpmgohhgmfaaDoorCxR
import Derived.Test.YtncnpmgohhgmfaaDoorNq
import Derived.Test.YtncnpmgohhgmfaaDoorTie
import Derived.Test.YtncnpmgohhgmfaaDoorCards
import Derived.SizedLaws
import Derived.Lib.LaidTab
import Derived.Stop.LaidErr
namespace Go.Proofs.YtncnpmgohhgmfaaDoor
open Go Go.Cx Go.RowKit
set_option linter.unusedVariables false
set_option linter.unusedSimpArgs false
set_option maxHeartbeats 4000000
attribute [local irreducible] J JC thenK blockK loopK roundK drawK retK QW Qt pel List.set Calls
open Go.ChangeShapes Go.WideShapes
/-- as Reads, what is read within the reach -/
def ReadsS {α : Type} (P : Program) (w : World) (t : TypeId) (enc : α → List Value) (good : α → Prop) : Prop :=
  ∀ (A : Type) (ec : TypeId × Value → A) (base : Nat) (spare : Nat → Bool) (held : Bool) (fuel : Nat) (cs : List Value) (x : DataW A × List MemPlace), DataW.trod ec P w base spare held fuel t cs = some x → (∀ q, q ∈ x.1.weights P t → q ≤ reachBytes) → ∃ u : α, cs = enc u ∧ good u
section
variable {P : Program} {w : World} {t e : TypeId}
theorem readsS_of {α : Type} {enc : α → List Value} {good : α → Prop} (h : Reads P w t enc good) : ReadsS P w t enc good := fun A ec base spare held fuel cs x hx _ => h A ec base spare held fuel cs x hx
theorem ReadsS.map {α β : Type} {enc : α → List Value} {good : α → Prop} {enc' : β → List Value} {good' : β → Prop} (h : ReadsS P w t enc good) (g : α → β) (hg : ∀ u, good u → enc u = enc' (g u) ∧ good' (g u)) : ReadsS P w t enc' good' := by
  intro A ec base spare held fuel cs x hx hwt
  obtain ⟨u, h1, h2⟩ := h A ec base spare held fuel cs x hx hwt
  obtain ⟨h3, h4⟩ := hg u h2
  exact ⟨g u, h1.trans h3, h4⟩
theorem weightsAll_mem {H : Type} (P : Program) (e : TypeId) : ∀ {l : List (DataW H)} {d : DataW H}, d ∈ l → ∀ {q : Nat}, q ∈ d.weights P e → q ∈ DataW.weightsAll P e l
  | c :: l, d, hd, q, hq => by
    simp only [DataW.weightsAll, List.mem_append]
    rcases List.mem_cons.1 hd with rfl | hd
    · exact .inl hq
    · exact .inr (weightsAll_mem P e hd hq)
theorem readsS_slice {α : Type} {enc : α → List Value} {good : α → Prop} {size : Nat} (ht : P.underlying t = some (.slice e)) (hc : P.cellsOf e = size) (h0 : 0 < size) (hE : ∀ u, (enc u).length = size) {nb : Nat} (hnb : P.bytesOf e = nb) (he : ReadsS P w e enc good) : ReadsS P w t (encSl (α := α)) (fun u => GoodSl w enc size good u ∧ u.ts.length * nb ≤ reachBytes) := by
  intro A ec base spare held fuel cs x h hwt
  rcases Go.Deep.open_slice ht h with ⟨rfl, _⟩ | ⟨a, len, cap, m, n, D, Pl, rfl, hb, hl, hm, hmm, hx, hi⟩
  · exact ⟨⟨none, 0, []⟩, rfl, ⟨⟨hE, fun i hi => by simp at hi⟩, fun x hx => by simp at hx, Nat.le_refl _, Nat.zero_le _⟩, by simp⟩
  have hlm : len ≤ m := by rw [hmm]; split <;> omega
  rw [hx] at hwt
  have hw0 : ∀ q, q ∈ (((List.range len).map D).length + ((List.range (m - len)).map fun j => D (len + j)).length) * P.bytesOf e :: (DataW.weightsAll P e ((List.range len).map D) ++ DataW.weightsAll P e ((List.range (m - len)).map fun j => D (len + j))) → q ≤ reachBytes := fun q hq => hwt q (by
    simp only [DataW.weights, ht]
    exact hq)
  have hwl : len * nb ≤ reachBytes := by
    have := hw0 _ List.mem_cons_self
    rw [List.length_map, List.length_range, hnb] at this
    exact Nat.le_trans (Nat.mul_le_mul_right _ (Nat.le_add_right _ _)) this
  have hwi : ∀ i, i < len → ∀ q, q ∈ (D i).weights P e → q ≤ reachBytes := fun i hi q hq => hw0 q (List.mem_cons_of_mem _ (List.mem_append_left _ (weightsAll_mem P e (List.mem_map_of_mem (f := D) (List.mem_range.2 hi)) hq)))
  have hel : ∀ i, i < len → ∃ u : α, w.cells? base (a.add (i * size)) size = some (enc u) ∧ good u := fun i hil => by
    obtain ⟨cs', h1, h2⟩ := hi i (by omega)
    obtain ⟨u, rfl, hu⟩ := he A ec base spare held n cs' _ h2 (hwi i hil)
    rw [hc] at h1
    exact ⟨u, h1, hu⟩
  obtain ⟨f, hf⟩ : ∃ f : Nat → Option α, ∀ i, i < len → ∃ u, f i = some u ∧ w.cells? base (a.add (i * size)) size = some (enc u) ∧ good u := by
    have : ∀ i, ∃ o : Option α, i < len → ∃ u, o = some u ∧ w.cells? base (a.add (i * size)) size = some (enc u) ∧ good u := fun i => by
      by_cases hil : i < len
      · obtain ⟨u, h1, h2⟩ := hel i hil
        exact ⟨some u, fun _ => ⟨u, rfl, h1, h2⟩⟩
      · exact ⟨none, fun h => absurd h hil⟩
    exact ⟨fun i => (this i).choose, fun i => (this i).choose_spec⟩
  have hall : ∀ m, m ≤ len → ∃ us : List α, us.length = m ∧ ∀ i (hi : i < us.length), f i = some us[i] := fun m => by
    induction m with
    | zero => exact fun _ => ⟨[], rfl, fun i hi => by simp at hi⟩
    | succ m ih =>
      intro hml
      obtain ⟨us, h1, h2⟩ := ih (by omega)
      obtain ⟨u, h3, _⟩ := hf m (by omega)
      refine ⟨us ++ [u], by simp [h1], fun i hi => ?_⟩
      by_cases hlt : i < us.length
      · rw [List.getElem_append_left hlt]; exact h2 i hlt
      · have : i = us.length := by simp at hi; omega
        subst this
        rw [List.getElem_append_right (Nat.le_refl _)]
        simp only [Nat.sub_self, List.getElem_cons_zero]
        rw [h1]; exact h3
  obtain ⟨us, hul, hus⟩ := hall len (Nat.le_refl _)
  have hus' : ∀ i (hi : i < us.length), w.cells? base (a.add (i * size)) size = some (enc us[i]) ∧ good us[i] := fun i hi => by
    obtain ⟨u, h1, h2, h3⟩ := hf i (by omega)
    rw [hus i hi] at h1
    obtain rfl := Option.some.inj h1
    exact ⟨h2, h3⟩
  refine ⟨⟨some a, cap, us⟩, by rw [encSl]; simp only [hul], ⟨⟨hE, fun i hi => ?_⟩, fun x hx => ?_, by simp only [hul]; exact hl, hm⟩, by simp only [hul]; exact hwl⟩
  · obtain ⟨h1, _⟩ := hus' i hi
    obtain ⟨b, off, spot⟩ := a
    have hsp : spot = none := by
      obtain ⟨h2, _⟩ := hus' 0 (by simp only at hi ⊢; omega)
      obtain ⟨_, hl0, h3⟩ := World.cells?_some h2
      have h4 := h3 0 h0
      rw [List.getElem?_eq_getElem (by omega), Nat.zero_mul] at h4
      have h5 := World.cell?_spot h4
      simpa [Addr.add] using h5
    subst hsp
    have hadd : (⟨b, off, none⟩ : Addr).add (i * size) = ⟨b, off + i * size, none⟩ := by
      unfold Addr.add
      split
      · rename_i h0; rw [h0]; rfl
      · rfl
    rw [hadd] at h1
    obtain ⟨c, e', fr, h2, h3, h4⟩ := cells_row h1 h0
    exact ⟨b, off, c, e', fr, rfl, mem_heapOf h2, by rw [Nat.add_mul, Nat.one_mul]; omega, h4⟩
  · obtain ⟨i, hi, rfl⟩ := List.mem_iff_getElem.1 hx
    exact (hus' i hi).2

theorem partsS {fs : Array Field} (ht : P.underlying t = some (.struct fs)) {A : Type} {ec : TypeId × Value → A} {base : Nat} {spare : Nat → Bool} {held : Bool} {fuel : Nat} {cs : List Value} {x : DataW A × List MemPlace} (h : DataW.trod ec P w base spare held fuel t cs = some x) (hwt : ∀ q, q ∈ x.1.weights P t → q ≤ reachBytes) :
    cs.length = P.cellsOf t ∧ ∀ (i off : Nat) {ft : TypeId} {sz : Nat} {α : Type} {enc : α → List Value} {good : α → Prop}, (fs[i]?).map (fun f => (f.type, f.offset)) = some (ft, off) → P.cellsOf ft = sz → ReadsS P w ft enc good → ∃ u, (cs.drop off).take sz = enc u ∧ good u := by
  obtain ⟨xs, m, _, rfl, hl, hn, hi⟩ := DataW.trod_struct ht h
  have hw0 : ∀ q, q ∈ DataW.weightsEach P (fs.toList.map (·.type)) (xs.map (·.1)) → q ≤ reachBytes := fun q hq => hwt q (by
    simp only [DataW.weights, ht]
    exact hq)
  refine ⟨hl, fun i off ft sz α enc good hf hz hr => ?_⟩
  cases hf' : fs[i]? with
  | none => rw [hf'] at hf; cases hf
  | some f =>
    rw [hf'] at hf
    simp only [Option.map_some, Option.some.injEq, Prod.mk.injEq] at hf
    obtain ⟨rfl, rfl⟩ := hf
    subst hz
    have h1 := hi i f hf'
    have hil : i < fs.size := (Array.getElem?_eq_some_iff.1 hf').1
    rw [List.getElem?_eq_getElem (by omega)] at h1
    refine hr A ec base spare held m _ _ h1 fun q hq => hw0 q (DataW.weights_mem_each (j := i) (t := f.type) (d := (xs[i]'(by omega)).1) ?_ ?_ q hq)
    · rw [List.getElem?_map, Array.getElem?_toList, hf']; rfl
    · rw [List.getElem?_map, List.getElem?_eq_getElem (by omega)]; rfl
theorem arg_aggS {α : Type} {enc : α → List Value} {good : α → Prop} {v : Value} {A : Type} {ec : TypeId × Value → A} {base : Nat} {spare : Nat → Bool} {held : Bool} {d : DataW A} {ps : List MemPlace}
    (hag : ∃ cs, v = .agg cs) (hr : ReadsS P w t enc good) (h : DataW.Trod ec P w base spare held t v d ps) (hwt : ∀ q, q ∈ d.weights P t → q ≤ reachBytes) : ∃ u : α, v = .agg ⟨enc u⟩ ∧ good u := by
  obtain ⟨cs, rfl⟩ := hag
  obtain ⟨fuel, h⟩ := h
  obtain ⟨u, h1, h2⟩ := hr A ec base spare held fuel _ _ h hwt
  refine ⟨u, ?_, h2⟩
  have : cs.toList = enc u := h1
  rw [← this]
end
theorem own : ownKnob Tryd.prog.godebug = none := by kernel_rfl
theorem laidOut : laidOutB Tryd.prog = true := by kernel_rfl
theorem c_int : Tryd.prog.cellsOf 3 = 1 := by kernel_rfl
theorem c_Nd : Tryd.prog.cellsOf 40 = 3 := by kernel_rfl
theorem c_ints : Tryd.prog.cellsOf 38 = 1 := by kernel_rfl
theorem c_Nds : Tryd.prog.cellsOf 22 = 1 := by kernel_rfl
theorem c_Net : Tryd.prog.cellsOf 24 = 2 := by kernel_rfl
theorem b_int : Tryd.prog.bytesOf 3 = 8 := by kernel_rfl
theorem b_Nd : Tryd.prog.bytesOf 40 = 40 := by kernel_rfl
theorem c_u64 : Tryd.prog.cellsOf 25 = 1 := by kernel_rfl
theorem c_set : Tryd.prog.cellsOf 27 = 2 := by kernel_rfl
theorem u64_wf {m : Int} (h : (Lit.int .u64 m).wf = true) : ∃ k : Nat, m = (k : Int) ∧ k < 2 ^ 64 := by
  simp only [Lit.wf, Bool.and_eq_true, decide_eq_true_eq] at h
  have h1 : (0 : Int) ≤ m := h.1
  have h2 : m ≤ (18446744073709551615 : Int) := h.2
  exact ⟨m.toNat, by omega, by omega⟩
def encS (s : Nat × Nat) : List Value := [.int .u64 (s.1 : Int), .int .u64 (s.2 : Int)]
theorem reads_set (W : World) : Reads Tryd.prog W 27 encS okS := by
  have h : Reads Tryd.prog W 27 _ _ := reads_array2 Tryd.underlying27 c_u64 c_set (reads_int Tryd.underlying25)
  refine h.map (fun p : Int × Int => (p.1.toNat, p.2.toNat)) (fun u hu => ?_)
  obtain ⟨a, h1, h2⟩ := u64_wf hu.1
  obtain ⟨b, h3, h4⟩ := u64_wf hu.2
  obtain ⟨x, y⟩ := u
  simp only at h1 h3
  subst h1; subst h3
  exact ⟨rfl, h2, h4⟩
structure GoodNV (W : World) (v : NV) : Prop where
  s : SlT encI 1 v.a v.l (heapOf W)
  n : v.l.length ≤ 17592186044416
theorem reads_Nd (W : World) : ReadsS Tryd.prog W 40 encNV (GoodNV W) := by
  intro A ec base spare held fuel cs x h hwt
  obtain ⟨hl, hp⟩ := partsS Tryd.underlying40 h hwt
  rw [c_Nd] at hl
  obtain ⟨k, e0, _⟩ := hp 0 0 rfl c_int (readsS_of (reads_int Tryd.underlying3))
  obtain ⟨l, e1, _⟩ := hp 1 1 rfl c_int (readsS_of (reads_int Tryd.underlying3))
  obtain ⟨s, e2, hs, hb⟩ := hp 2 2 rfl c_ints (readsS_slice (enc := encI) (size := 1) Tryd.underlying38 c_int (by decide) (fun _ => rfl) b_int (readsS_of (reads_int Tryd.underlying3)))
  clear h hp
  match cs, hl with
  | [c0, c1, c2], _ =>
    simp at e0 e1 e2
    subst e0; subst e1
    refine ⟨⟨k, l, s.a, s.cap, s.ts⟩, ?_, hs.sl, ?_⟩
    · rw [encSl] at e2
      simp only [List.cons.injEq, and_true] at e2
      rw [e2]; rfl
    · unfold reachBytes at hb
      show s.ts.length ≤ 17592186044416
      omega
structure NetV where
  n : Int
  a : Option Addr
  c : Nat
  vs : List NV
def encNet (x : NetV) : List Value := [.int .i64 x.n, .slice x.a x.vs.length x.c]
structure GoodNet (W : World) (x : NetV) : Prop where
  o : SlT encNV 3 x.a x.vs (heapOf W)
  i : ∀ v, v ∈ x.vs → GoodNV W v
  n : x.vs.length ≤ 9223372036854775807
theorem reads_net (W : World) : ReadsS Tryd.prog W 24 encNet (GoodNet W) := by
  intro A ec base spare held fuel cs x h hwt
  obtain ⟨hl, hp⟩ := partsS Tryd.underlying24 h hwt
  rw [c_Net] at hl
  obtain ⟨k, e0, _⟩ := hp 0 0 rfl c_int (readsS_of (reads_int Tryd.underlying3))
  obtain ⟨s, e1, hs, hb⟩ := hp 1 1 rfl c_Nds (readsS_slice (enc := encNV) (size := 3) Tryd.underlying22 c_Nd (by decide) (fun _ => rfl) b_Nd (reads_Nd W))
  clear h hp
  match cs, hl with
  | [c0, c1], _ =>
    simp at e0 e1
    subst e0
    refine ⟨⟨k, s.a, s.cap, s.ts⟩, ?_, hs.sl, hs.all, ?_⟩
    · rw [encSl] at e1
      simp only [List.cons.injEq, and_true] at e1
      rw [e1]; rfl
    · have := hs.cap
      unfold maxLen at this
      show s.ts.length ≤ 9223372036854775807
      omega
theorem door_met (os : Os) (args : Array Value) : laidMetH Tryd.prog Rows.nodeChecksRow.laid ((World.doorLaid Tryd.prog 400 os).forCall (fun _ _ => 0) ⟨#[], args, []⟩).memory :=
  laidMetH_of_parts3 (fuel := 8) (laidMet_of_run' 8 (by kernel_rfl) (by kernel_rfl)) (by kernel_rfl) (by kernel_rfl)
theorem tab_of_laid {W : World} (h : laidMetH Tryd.prog Rows.nodeChecksRow.laid W) : Tab W := by
  rw [MakeChecks.laidMetH_plain _ _ _ (by kernel_rfl)] at h
  have h2 := h.tail.tail
  exact Lib.tabIs_of_head (rest := []) (g := 0) (by kernel_rfl) (by kernel_rfl) (Tryd.underlying129) Tryd.underlying25 (by kernel_rfl) (by kernel_rfl) h2
end Go.Proofs.YtncnpmgohhgmfaaDoor
