/-
  Maps of the call's own, continued: the kit's word for a map, and back; maps.DeleteFunc.
-/
import Derived.Test.YthnhijdfcmcnhaaCxY
import Derived.Shelf.SlMaps.DeleteFunc
namespace Go.Cx
open Go Go.RowKit Go.Maps Go.WideElems
set_option linter.unusedVariables false
set_option linter.unusedSimpArgs false
section
variable {P : Program} {κ β : Type} {k : TypeId} {ek : κ → Value} {ev : β → Value}
/-- how an entry reads -/
def toD (P : Program) (k : TypeId) (ek : κ → Value) (dl : β → DataW Unit) (p : κ × β) : Lit × DataW Unit := ((keyOf P k (ek p.1)).getD (.bool false), dl p.2)
theorem rg_toD {R : Value → Option (DataW Unit × List MemPlace)} {dl : β → DataW Unit} (hR : ∀ y, R (ev y) = some (dl y, [])) (p : κ × β) (hk : ∃ l, keyOf P k (ek p.1) = some l) (born : Nat) : rd P k R ⟨ek p.1, ev p.2, born⟩ = some (toD P k ek dl p) := by
  obtain ⟨l, hl⟩ := hk
  rw [rd_mk hl (hR p.2), toD, hl]
  rfl
theorem MapT.owns {m : List (κ × β)} {b : Nat} {h : Heap} (mt : MapT P k ek ev m b h) {R : Value → Option (DataW Unit × List MemPlace)} {dl : β → DataW Unit} (hR : ∀ y, R (ev y) = some (dl y, [])) {w : World} (hw : Holds h w) (hl : m.length ≤ maxLen) :
    w.ownsMap P k R b m.length (.map ((m.map (toD P k ek dl)).foldr DataW.insert [])) := by
  obtain ⟨es, clock, he, hrow, hst⟩ := mt.row
  have hb : w.heap[b]? = some (.map ⟨es⟩ clock) := hw (b, _) (by rw [he]; simp)
  have hlen : es.length = m.length := by simpa using congrArg List.length hrow
  have hat : ∀ e, e ∈ es → ∃ p, p ∈ m ∧ e.key = ek p.1 ∧ e.val = ev p.2 := fun e hm => by
    have h1 : (e.key, e.val) ∈ es.map (fun e => (e.key, e.val)) := List.mem_map_of_mem hm
    rw [hrow] at h1
    obtain ⟨p, hp, hpe⟩ := List.mem_map.1 h1
    simp only [Prod.mk.injEq] at hpe
    exact ⟨p, hp, hpe.1.symm, hpe.2.symm⟩
  have hrd : ∀ e, e ∈ es → ∃ p, p ∈ m ∧ rd P k R e = some (toD P k ek dl p) := fun e hm => by
    obtain ⟨p, hp, h1, h2⟩ := hat e hm
    refine ⟨p, hp, ?_⟩
    have := rg_toD (ek := ek) (ev := ev) hR p (mt.keys p hp) e.born
    rw [← h1, ← h2] at this
    exact this
  refine ⟨⟨es⟩, clock, hb, ⟨by simpa [hlen] using hl, hst, fun x hx => ?_⟩, by simp [hlen], ?_⟩
  · obtain ⟨p, _, hp⟩ := hrd x hx
    exact ⟨_, hp⟩
  · congr 2
    have h1 : es.map (rg P k R) = (es.map (fun e => (e.key, e.val))).map (fun q => rg P k R ⟨q.1, q.2, 0⟩) := by
      rw [List.map_map]; rfl
    show _ = es.map (rg P k R)
    rw [h1, hrow, List.map_map]
    apply List.map_congr_left
    intro p hp
    exact (rg_of (rg_toD hR p (mt.keys p hp) 0)).symm
theorem pick_list {R : Value → Option (DataW Unit × List MemPlace)} {dl : β → DataW Unit} (hRi : ∀ v d ps, R v = some (d, ps) → ∃ y, v = ev y ∧ d = dl y) (hki : ∀ v l, keyOf P k v = some l → ∃ x, v = ek x) : ∀ l : List MapEntry, (∀ x ∈ l, ∃ y, rd P k R x = some y) →
    ∃ m' : List (κ × β), l.map (fun e => (e.key, e.val)) = m'.map (fun p => (ek p.1, ev p.2)) ∧ m'.map (toD P k ek dl) = l.map (rg P k R) ∧ ∀ p, p ∈ m' → ∃ l, keyOf P k (ek p.1) = some l
  | [], _ => ⟨[], rfl, rfl, fun p hp => by cases hp⟩
  | e :: l, h => by
    obtain ⟨m', h1, h2, h3⟩ := pick_list hRi hki l (fun x hx => h x (List.mem_cons_of_mem _ hx))
    obtain ⟨y, hy⟩ := h e List.mem_cons_self
    have hk := rd_key hy
    obtain ⟨⟨d, ps⟩, hz, hd⟩ := rd_val hy
    obtain ⟨x, hx⟩ := hki _ _ hk
    obtain ⟨yy, hv, hdl⟩ := hRi _ _ _ hz
    refine ⟨(x, yy) :: m', ?_, ?_, ?_⟩
    · rw [List.map_cons, List.map_cons, h1, hx, hv]
    · rw [List.map_cons, List.map_cons, h2, rg_of hy]
      congr 1
      rw [toD, ← hx, hk]
      simp only [Option.getD_some]
      rw [← hdl]
      exact Prod.ext rfl hd.symm
    · intro p hp
      rcases List.mem_cons.1 hp with rfl | hp
      · exact ⟨_, by rw [← hx]; exact hk⟩
      · exact h3 p hp
theorem MapT.of_owns {b n : Nat} {R : Value → Option (DataW Unit × List MemPlace)} {dl : β → DataW Unit} (hRi : ∀ v d ps, R v = some (d, ps) → ∃ y, v = ev y ∧ d = dl y) (hki : ∀ v l, keyOf P k v = some l → ∃ x, v = ek x) {w : World} {es0 : List (Lit × DataW Unit)}
    (ho : w.ownsMap P k R b n (.map es0)) : ∃ (m' : List (κ × β)) (o : Obj), MapT P k ek ev m' b [(b, o)] ∧ w.heap[b]? = some o ∧ (m'.map (toD P k ek dl)).Perm es0 ∧ m'.length ≤ n := by
  obtain ⟨es, clock, hb, F, hn, hD⟩ := ho
  simp only [DataW.map.injEq] at hD
  obtain ⟨m', h1, h2, h3⟩ := pick_list (ek := ek) (ev := ev) hRi hki es.toList F.reads
  have hlen : es.toList.length = m'.length := by simpa using congrArg List.length h1
  refine ⟨m', .map es clock, ⟨⟨es.toList, clock, rfl, h1, F.stamped⟩, h3, ?_⟩, hb, ?_, by rw [← hlen]; simpa using hn⟩
  · have hk : es.toList.map (·.key) = (m'.map (·.1)).map ek := by
      have := congrArg (List.map Prod.fst) h1
      rw [List.map_map, List.map_map] at this
      rw [List.map_map]
      exact this
    have hnd : (es.toList.map (·.key)).Nodup := F.stamped.2.2
    rw [hk] at hnd
    exact (List.pairwise_map.1 hnd).imp (fun hne e => hne (congrArg ek e))
  · rw [h2, hD]
    exact (Go.WideShapes.sorted_perm _).symm

/-- A call that turns one block of the call's own, and lays new ones. -/
theorem H.grew {w0 w w' : World} {R : Heap} {L : List Heap} {b : Nat} {o o' : Obj} (h : H w0 R ([(b, o)] :: L) w) (hg : w.grownBy w' (some b)) (hb : w'.heap[b]? = some o') : H w0 R ([(b, o')] :: L) w' := by
  have hgB : w0.heap.size ≤ b := h.new (b, o) (by simp)
  have hnd : (b :: L.flatten.map (·.1)).Nodup := by simpa using h.nodup
  have hng : ∀ x, x ∈ L.flatten → x.1 ≠ b := fun x hx e => (List.nodup_cons.1 hnd).1 (List.mem_map.2 ⟨x, hx, e⟩)
  have hsz := h.below.size
  refine ⟨?_, h.old, ?_, ?_, ?_⟩
  · exact h.below.trans ⟨hg.os, hg.tape, hg.output, hg.size, fun i hi => hg.block i (by omega) (fun e => by cases e; omega)⟩
  · intro x hx
    simp only [List.flatten_cons, List.mem_append, List.mem_singleton] at hx
    rcases hx with rfl | hx
    · exact hb
    · have h1 := h.own x (List.mem_append_right _ hx)
      have h2 := (Array.getElem?_eq_some_iff.1 h1).1
      rw [hg.block _ h2 (fun e => hng x hx (Option.some.inj e))]
      exact h1
  · intro x hx
    simp only [List.flatten_cons, List.mem_append, List.mem_singleton] at hx
    rcases hx with rfl | hx
    · exact hgB
    · exact h.new x (List.mem_append_right _ hx)
  · simpa using hnd
theorem H.grewRest {w0 w w' : World} {R : Heap} {L : List Heap} {b : Nat} {o : Obj} (h : H w0 R ([(b, o)] :: L) w) (hg : w.grownBy w' (some b)) : H w0 R L w' := by
  have hnd : (b :: L.flatten.map (·.1)).Nodup := by simpa using h.nodup
  have hng : ∀ x, x ∈ L.flatten → x.1 ≠ b := fun x hx e => (List.nodup_cons.1 hnd).1 (List.mem_map.2 ⟨x, hx, e⟩)
  have hgB : w0.heap.size ≤ b := h.new (b, o) (by simp)
  have hsz := h.below.size
  refine ⟨?_, h.old, ?_, fun x hx => h.new x (List.mem_append_right _ hx), (List.nodup_cons.1 hnd).2⟩
  · exact h.below.trans ⟨hg.os, hg.tape, hg.output, hg.size, fun i hi => hg.block i (by omega) (fun e => by cases e; omega)⟩
  · intro x hx
    have h1 := h.own x (List.mem_append_right _ hx)
    have h2 := (Array.getElem?_eq_some_iff.1 h1).1
    rw [hg.block _ h2 (fun e => hng x hx (Option.some.inj e))]
    exact h1

theorem toD_inj (K : Keyed P k) {dl : β → DataW Unit} (inj : ∀ x y, ek x = ek y → x = y) (dinj : ∀ y y', dl y = dl y' → y = y') {p q : κ × β} (hp : ∃ l, keyOf P k (ek p.1) = some l) (hq : ∃ l, keyOf P k (ek q.1) = some l) (e : toD P k ek dl p = toD P k ek dl q) : p = q := by
  obtain ⟨l, hl⟩ := hp
  obtain ⟨l', hl'⟩ := hq
  simp only [toD, hl, hl', Option.getD_some, Prod.mk.injEq] at e
  obtain ⟨e1, e2⟩ := e
  subst e1
  exact Prod.ext (inj _ _ (K.inj hl hl')) (dinj _ _ e2)

/-- maps.DeleteFunc at a map of the call's own. -/
theorem deleteFunc_T {ρ : Go.Shelf.Ren} (Ly : Go.Proofs.SlLaysDf.n5 P ρ) (K : Keyed P (ρ.t 26)) {R : Value → Option (DataW Unit × List MemPlace)} {dl : β → DataW Unit} (hR : ∀ y, R (ev y) = some (dl y, []))
    (hRi : ∀ v d ps, R v = some (d, ps) → ∃ y, v = ev y ∧ d = dl y) (hki : ∀ v l, keyOf P (ρ.t 26) v = some l → ∃ x, v = ek x) (inj : ∀ x y, ek x = ek y → x = y) (dinj : ∀ y y', dl y = dl y' → y = y')
    {q : κ → β → Bool} (g : Nat) (eg : Entr P g) (cb : List Value) {m : List (κ × β)} {b : Nat} {h : Heap} (mt : MapT P (ρ.t 26) ek ev m b h) (hl : m.length ≤ maxLen) {w0 w : World} {R0 : Heap} {L : List Heap} (hw : H w0 R0 (h :: L) w)
    (hdel : ∀ x y W, (∃ l, keyOf P (ρ.t 26) (ek x) = some l) → H w0 R0 L W → Calls P g ⟨[ek x, ev y] ++ cb⟩ W fun e w' => e = .returned (.bool (q x y)) ∧ Below W.heap.size W w') :
    Calls P (ρ.f 5) ⟨[.map (some b), .func (.func g) ⟨[]⟩ ⟨cb⟩]⟩ w fun e w' => ∃ v L', e = .returned v ∧ H w0 R0 L' w' ∧ (v = .tuple #[] ∧ ∃ m' h', L' = h' :: L ∧ MapT P (ρ.t 26) ek ev m' b h' ∧ m'.Perm (m.filter fun p => !q p.1 p.2)) := by
  obtain ⟨es, clock, he, hrow, hst⟩ := mt.row
  have hwh : Holds h w := hw.rdH RdH.hd
  have hown := mt.owns hR hwh hl
  subst he
  classical
  let pd : Lit → DataW Unit → Bool := fun l d => decide (∃ p : κ × β, toD P (ρ.t 26) ek dl p = (l, d) ∧ (∃ l, keyOf P (ρ.t 26) (ek p.1) = some l) ∧ q p.1 p.2 = true)
  have hpd : ∀ p : κ × β, (∃ l, keyOf P (ρ.t 26) (ek p.1) = some l) → pd (toD P (ρ.t 26) ek dl p).1 (toD P (ρ.t 26) ek dl p).2 = q p.1 p.2 := fun p hp => by
    show decide _ = _
    cases hq : q p.1 p.2 with
    | true => exact decide_eq_true ⟨p, rfl, hp, hq⟩
    | false =>
      refine decide_eq_false ?_
      rintro ⟨p', e1, h1, h2⟩
      have := toD_inj K inj dinj h1 hp e1
      rw [this, hq] at h2
      cases h2
  refine (Go.Proofs.AnyDf.maps_DeleteFunc Ly K R pd g ⟨cb⟩ b m.length _ w (fun a w => eg a w) hown ?_).mono ?_
  · intro W key val kl yd yp hg hk hv
    obtain ⟨x, hx⟩ := hki _ _ hk
    obtain ⟨y, hy, hd⟩ := hRi _ _ _ hv
    subst hx hy hd
    have hk' : ∃ l, keyOf P (ρ.t 26) (ek x) = some l := ⟨_, hk⟩
    have h1 := hpd (x, y) hk'
    simp only [toD, hk, Option.getD_some] at h1
    rw [h1]
    have hc := hdel x y W hk' (hw.grewRest hg)
    have hcb : (⟨[ek x, ev y] ++ cb⟩ : Array Value) = #[ek x, ev y] ++ ⟨cb⟩ := by simp
    rw [hcb] at hc
    refine hc.mono ?_
    rintro e w' ⟨h2, h3⟩
    exact ⟨h2, ⟨h3.os, h3.tape, h3.output, h3.size, fun i hi _ => h3.block i hi⟩⟩
  · rintro e w' ⟨rfl, ho, hg⟩
    obtain ⟨m', o, mt', hb', hp, hn⟩ := MapT.of_owns (ek := ek) (ev := ev) (dl := dl) hRi hki ho
    refine ⟨_, _, rfl, hw.grew hg hb', rfl, m', _, rfl, mt', ?_⟩
    have hnd : ∀ {l : List (κ × β)}, (l.map (·.1)).Nodup → l.Nodup := fun {l} h => (List.pairwise_map.1 h).imp fun hne e => hne (congrArg Prod.fst e)
    have hp2 : (m'.map (toD P (ρ.t 26) ek dl)).Perm ((m.map (toD P (ρ.t 26) ek dl)).filter fun p => !pd p.1 p.2) := hp.trans ((Go.WideShapes.sorted_perm _).filter _)
    refine (List.perm_ext_iff_of_nodup (hnd mt'.nodup) ((hnd mt.nodup).filter _)).2 fun p => ?_
    constructor
    · intro hm
      have h1 : toD P (ρ.t 26) ek dl p ∈ m'.map (toD P (ρ.t 26) ek dl) := List.mem_map_of_mem hm
      rw [hp2.mem_iff, List.mem_filter] at h1
      obtain ⟨h2, h3⟩ := h1
      obtain ⟨p', hp', e⟩ := List.mem_map.1 h2
      have := toD_inj K inj dinj (mt.keys p' hp') (mt'.keys p hm) e
      subst this
      rw [hpd _ (mt.keys _ hp')] at h3
      exact List.mem_filter.2 ⟨hp', h3⟩
    · intro hm
      obtain ⟨h1, h2⟩ := List.mem_filter.1 hm
      have h3 : toD P (ρ.t 26) ek dl p ∈ m'.map (toD P (ρ.t 26) ek dl) := by
        rw [hp2.mem_iff, List.mem_filter]
        refine ⟨List.mem_map_of_mem h1, ?_⟩
        rw [hpd _ (mt.keys _ h1)]
        exact h2
      obtain ⟨p', hp', e⟩ := List.mem_map.1 h3
      rw [← toD_inj K inj dinj (mt'.keys p' hp') (mt.keys p h1) e]
      exact hp'
end
end Go.Cx
