/-
  The layer's rules for literals of structs, arrays and slices, and for make.
-/
import Derived.Test.YthnhijdfcmcnhaaCxF
namespace Go.Cx
open Go Go.RowKit
set_option linter.unusedVariables false
set_option linter.unusedSimpArgs false

theorem putL_cons (cs : List Value) (k : Nat) (x : Value) (l : List Value) : putL cs k (x :: l) = putL (cs.set k x) (k + 1) l := by
  induction cs generalizing k with
  | nil => simp [putL]
  | cons c cs ih =>
    cases k with
    | zero => simp only [putL, List.set_cons_zero]
    | succ k => simp only [putL, List.set_cons_succ]; rw [ih]

theorem foldl_put (off : Nat) : ∀ (vl : List Value) (m : Nat) (cells : Array Value), (vl.zipIdx m).foldl (fun (cs : Array Value) (p : Value × Nat) => cs.setIfInBounds (off + p.2) p.1) cells = (putL cells.toList (off + m) vl).toArray
  | [], m, cells => by rw [putL_nil]; simp
  | v :: vl, m, cells => by
    rw [List.zipIdx_cons, List.foldl_cons, foldl_put off vl (m + 1), putL_cons]
    simp [Nat.add_assoc]

def fillEv (pl : Nat → Option (Nat × Nat)) : List Value → List (Nat × List Value) → Option (List Value)
  | cells, [] => some cells
  | cells, (i, cl) :: rest =>
    match pl i with
    | some (off, sz) => bif Nat.beq cl.length sz && Nat.ble (off + cl.length) cells.length then forceL (putL cells off cl) (fun c => fillEv pl c rest) else none
    | none => none
def partsEv (ρ : Operand → Value) : List (Nat × Operand) → Option (List (Nat × List Value))
  | [] => some []
  | (i, x) :: l => match vcells (ρ x), partsEv ρ l with | some c, some r => some ((i, c) :: r) | _, _ => none

theorem fillEv_ok {pl : Nat → Option (Nat × Nat)} {ρ : Operand → Value} : ∀ {parts : List (Nat × Operand)} {cells r : List Value} {ps : List (Nat × List Value)}, partsEv ρ parts = some ps → fillEv pl cells ps = some r →
    Instr.fill pl cells.toArray (parts.map fun (i, x) => (i, ρ x)) = some r.toArray
  | [], cells, r, ps, hp, h => by
    simp only [partsEv, Option.some.injEq] at hp
    subst hp
    simp only [fillEv, Option.some.injEq] at h
    subst h
    rfl
  | (i, x) :: l, cells, r, ps, hp, h => by
    simp only [partsEv] at hp
    cases hv : vcells (ρ x) with
    | none => rw [hv] at hp; cases hp
    | some c =>
      cases hl : partsEv ρ l with
      | none => rw [hv, hl] at hp; cases hp
      | some qs =>
        rw [hv, hl] at hp
        simp only [Option.some.injEq] at hp
        subst hp
        simp only [fillEv] at h
        cases hpl : pl i with
        | none => rw [hpl] at h; cases h
        | some os =>
          obtain ⟨off, sz⟩ := os
          rw [hpl] at h
          simp only at h
          cases hb : (Nat.beq c.length sz && Nat.ble (off + c.length) cells.length) with
          | false => rw [hb] at h; cases h
          | true =>
            rw [hb] at h
            simp only [cond_true, forceL_eq] at h
            simp only [Bool.and_eq_true] at hb
            have h1 := Nat.eq_of_beq_eq_true hb.1
            have h2 := Nat.le_of_ble_eq_true hb.2
            have ih := fillEv_ok hl h
            simp only [List.map_cons, Instr.fill, hpl]
            have hc := vcells_eq hv
            have hput : (ρ x).cells.zipIdx.foldl (fun cs (x : Value × Nat) => cs.setIfInBounds (off + x.2) x.1) cells.toArray = (putL cells off c).toArray := by
              have := foldl_put off c 0 cells.toArray
              rw [hc, ← Array.foldl_toList, Array.toList_zipIdx]
              simpa using this
            rw [if_neg (by rw [hc]; simp [h1] at h2 ⊢; omega)]
            have hput' : (ρ x).cells.zipIdx.foldl (fun cs (x : Value × Nat) => match x with | (c, j) => cs.setIfInBounds (off + j) c) cells.toArray = (putL cells off c).toArray := hput
            rw [hput']
            exact ih

/-- The places of a struct's fields. -/
def placesEv (Γ : List (Nat × TI)) : List Field → Option (List (Nat × Nat))
  | [] => some []
  | fd :: l => match look Γ fd.type, placesEv Γ l with | some ti, some r => some ((fd.offset, ti.size) :: r) | _, _ => none
def buildEv (Γ : List (Nat × TI)) (t : TypeId) (ps : List (Nat × List Value)) : Option (List Value) :=
  match look Γ t with
  | some ⟨.struct ⟨fs⟩, _, some z, _⟩ => match placesEv Γ fs, vcells z with | some pl, some zc => fillEv (fun i => pl[i]?) zc ps | _, _ => none
  | some ⟨.array _ e, _, some z, _⟩ => match look Γ e, vcells z with | some te, some zc => fillEv (fun i => some (i * te.size, te.size)) zc ps | _, _ => none
  | _ => none

theorem placesEv_ok {P : Program} {Γ : List (Nat × TI)} (hΓ : Fits P Γ) : ∀ {fs : List Field} {pl : List (Nat × Nat)}, placesEv Γ fs = some pl → fs.mapM (fun f => (P.info? f.type).map fun i => (f.offset, i.size)) = some pl
  | [], pl, h => by simp only [placesEv, Option.some.injEq] at h; subst h; rfl
  | fd :: l, pl, h => by
    simp only [placesEv] at h
    cases hl : look Γ fd.type with
    | none => rw [hl] at h; cases h
    | some ti =>
      cases hr : placesEv Γ l with
      | none => rw [hl, hr] at h; cases h
      | some r =>
        rw [hl, hr] at h
        simp only [Option.some.injEq] at h
        subst h
        obtain ⟨_, i, hi, hs, _, _⟩ := hΓ _ _ hl
        have ih := placesEv_ok hΓ hr
        simp [List.mapM_cons, hi, hs, ih]

theorem buildEv_ok {P : Program} {Γ : List (Nat × TI)} (hΓ : Fits P Γ) {t : TypeId} {ρ : Operand → Value} {parts : List (Nat × Operand)} {ps : List (Nat × List Value)} {cl : List Value} (hp : partsEv ρ parts = some ps) (h : buildEv Γ t ps = some cl) (w : World) :
    (Instr.build t ((⟨parts⟩ : Array (Nat × Operand)).map fun (i, x) => (i, ρ x))).run P w = .ok (.agg cl.toArray) w := by
  refine run_build w t _ cl.toArray ?_
  unfold buildEv at h
  cases ht : look Γ t with
  | none => rw [ht] at h; cases h
  | some ti =>
    obtain ⟨hu, it, hit, hs, hz, hb⟩ := hΓ t _ ht
    obtain ⟨de, s, z, by'⟩ := ti
    rw [ht] at h
    cases de <;> try (cases h; done)
    case struct fs =>
      obtain ⟨fs⟩ := fs
      cases z with
      | none => cases h
      | some z =>
        simp only at h
        cases hpl : placesEv Γ fs with
        | none => rw [hpl] at h; cases h
        | some pl =>
          cases hzc : vcells z with
          | none => rw [hpl, hzc] at h; cases h
          | some zc =>
            rw [hpl, hzc] at h
            have := fillEv_ok hp h
            unfold Program.built
            simp only [hit, hu, hz, placesEv_ok hΓ hpl, vcells_eq hzc]
            simpa using this
    case array m e =>
      cases z with
      | none => cases h
      | some z =>
        simp only at h
        cases hle : look Γ e with
        | none => rw [hle] at h; cases h
        | some te =>
          cases hzc : vcells z with
          | none => rw [hle, hzc] at h; cases h
          | some zc =>
            rw [hle, hzc] at h
            obtain ⟨_, ie, hie, hse, _, _⟩ := hΓ e _ hle
            have := fillEv_ok hp h
            unfold Program.built
            simp only [hit, hu, hz, hie, vcells_eq hzc, hse]
            simpa using this

/-- So many rows of zeros. -/
def zrep : Nat → List Value → List Value
  | 0, _ => []
  | k + 1, z => z ++ zrep k z
theorem zrep_len (k : Nat) (z : List Value) : (zrep k z).length = k * z.length := by
  induction k with
  | zero => simp [zrep]
  | succ k ih => rw [zrep, List.length_append, ih, Nat.add_mul]; omega
theorem zrep_at (z : List Value) : ∀ (k j : Nat), j < k * z.length → (zrep k z)[j]? = z[j % z.length]?
  | 0, j, h => by simp at h
  | k + 1, j, h => by
    rw [zrep]
    by_cases hj : j < z.length
    · rw [List.getElem?_append_left hj, Nat.mod_eq_of_lt hj]
    · rw [List.getElem?_append_right (by omega), zrep_at z k (j - z.length) (by rw [Nat.add_mul] at h; omega)]
      rw [← Nat.mod_eq_sub_mod (by omega)]
theorem made_eq (z : List Value) (k : Nat) : (Array.range (k * z.length)).map (fun j => z.toArray[j % z.length]!) = (zrep k z).toArray := by
  apply Array.ext
  · simp [zrep_len]
  · intro j h1 h2
    have hj : j < k * z.length := by simpa using h1
    have hz : 0 < z.length := by
      rcases Nat.eq_zero_or_pos z.length with h0 | h0
      · rw [h0] at hj; simp at hj
      · exact h0
    have hm : j % z.length < z.length := Nat.mod_lt _ hz
    have h3 := zrep_at z k j hj
    simp only [Array.getElem_map, Array.getElem_range, List.getElem_toArray]
    rw [List.getElem?_eq_getElem (by rw [zrep_len]; exact hj), List.getElem?_eq_getElem hm] at h3
    have h4 := Option.some.inj h3
    rw [h4]
    simp [hm]
end Go.Cx
