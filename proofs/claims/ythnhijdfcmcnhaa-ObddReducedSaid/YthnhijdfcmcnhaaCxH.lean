/-
  The layer's rules: literals, make, append, stores into elements.
-/
import Derived.Test.YthnhijdfcmcnhaaCxG
namespace Go.Cx
open Go Go.RowKit
set_option linter.unusedVariables false
set_option linter.unusedSimpArgs false

theorem zrep_flat {α : Type} {enc : α → List Value} (z : α) (m : Nat) : zrep m (enc z) = (List.replicate m z).flatMap enc := by
  induction m with
  | zero => rfl
  | succ m ih => rw [zrep, ih, List.replicate_succ, List.flatMap_cons]

section
variable {P : Program} {n : Nat} {w0 : World} {R : Heap} {l0 : List Oper} {K : Exit → Fr → List Heap → Prop} {f : Fr} {L : List Heap} {rest : List (Nat × Oper)} {κ : Nat}
variable {Γ : List (Nat × TI)} {d : Nat} {op : Op} {ty : TypeId} {pos : String} {aft : Array Edge} {g : Option (Nat × Bool)}

theorem J.build {t : TypeId} {parts : List (Nat × Operand)} {ps : List (Nat × List Value)} {cl : List Value} (hΓ : Fits P Γ) (hg : wantB n f l0 ⟨some d, .build t ⟨parts⟩, ty, pos, aft, g⟩ = true) (hp : partsEv (Cx.ev n f) parts = some ps) (h : buildEv Γ t ps = some cl)
    (k : J P n w0 R l0 K rest (upd f d (.agg ⟨cl⟩)) L) : J P n w0 R l0 K ((κ, ⟨some d, .build t ⟨parts⟩, ty, pos, aft, g⟩) :: rest) f L :=
  J.p hg (fun w => by
    have := buildEv_ok (P := P) hΓ hp h w
    simp only [execOp, Sem.run_bind]
    rw [this]
    rfl) k

/-- A slice's literal: a new block. -/
theorem J.bslice {t e : TypeId} {len : Nat} {parts : List (Nat × Operand)} {ps : List (Nat × List Value)} {zc cl : List Value} {s1 s2 b1 b2 : Nat} {z1 : Option Value} {z : Value} {de : TypeDesc} (hΓ : Fits P Γ) (hg : wantB n f l0 ⟨some d, .buildSlice t len ⟨parts⟩, ty, pos, aft, g⟩ = true)
    (ht : look Γ t = some ⟨.slice e, s1, z1, b1⟩) (he : look Γ e = some ⟨de, s2, some z, b2⟩) (hz : vcells z = some zc) (hzl : Nat.beq zc.length s2 = true) (hlen : Nat.ble (len * s2) 16777216 = true)
    (hp : partsEv (Cx.ev n f) parts = some ps) (h : fillEv (fun i => some (i * s2, s2)) (zrep len zc) ps = some cl)
    (k : ∀ b, J P n w0 R l0 K rest (upd f d (.slice (some ⟨b, 0, none⟩) len len)) ([(b, .cells ⟨cl⟩ e (0, 0))] :: L)) : J P n w0 R l0 K ((κ + 2, ⟨some d, .buildSlice t len ⟨parts⟩, ty, pos, aft, g⟩) :: rest) f L := by
  refine J.vg (Φ := fun v h => ∃ b, v = .slice (some ⟨b, 0, none⟩) len len ∧ h = [(b, .cells ⟨cl⟩ e (0, 0))]) hg
    (fun w hw => ⟨.slice (some ⟨w.heap.size, 0, none⟩) len len, _, w.alloc (.cells ⟨cl⟩ e (0, 0)), ?_, hw.alloc _, w.heap.size, rfl, rfl⟩)
    (fun v L' ⟨b, h1, h2⟩ => by subst h1; subst h2; exact k b)
  have hu := (hΓ t _ ht).1
  obtain ⟨hue, ie, hie, hse, hze, hbe⟩ := hΓ e _ he
  have hsz := sizeOf_run hΓ he w
  have hzr : (zeroValue e).run P w = .ok z w := by simp [zeroValue, typeInfo, hie, hze, go_sem]
  have hf := fillEv_ok hp h
  have hl := Nat.eq_of_beq_eq_true hzl
  have hle := Nat.le_of_ble_eq_true hlen
  have hrow : ((Array.range (len * s2)).map (fun j => (if len * s2 = 0 then (#[] : Array Value) else zc.toArray)[j % (if len * s2 = 0 then (#[] : Array Value) else zc.toArray).size]!)) = (zrep len zc).toArray := by
    by_cases h0 : len * s2 = 0
    · have hz0 : zrep len zc = [] := List.eq_nil_of_length_eq_zero (by rw [zrep_len, hl, h0])
      rw [h0, hz0]
      simp
    · simp only [if_neg h0]
      rw [← made_eq zc len, hl]
      simp [hl]
  simp only [execOp, Sem.run_bind]
  have hb : (Instr.buildSlice t len ((⟨parts⟩ : Array (Nat × Operand)).map fun (i, x) => (i, Cx.ev n f x))).run P w = .ok (.slice (some ⟨w.heap.size, 0, none⟩) len len) (w.alloc (.cells ⟨cl⟩ e (0, 0))) := by
    unfold Instr.buildSlice
    simp only [Sem.run_bind, run_underlying hu, Result.andThen_ok, hsz]
    rw [if_neg (by omega)]
    by_cases h0 : len * s2 = 0
    · have e1 : ((Array.range (len * s2)).map (fun j => (#[] : Array Value)[j % (#[] : Array Value).size]!)) = (zrep len zc).toArray := by
        have := hrow; simpa only [if_pos h0] using this
      simp only [Sem.run_bind, h0, if_true, Sem.run_pure, Result.andThen_ok]
      rw [h0] at e1
      rw [e1]
      simp only [List.map_toArray] at hf ⊢
      rw [hf]
      rfl
    · have e1 : ((Array.range (len * s2)).map (fun j => zc.toArray[j % zc.toArray.size]!)) = (zrep len zc).toArray := by
        have := hrow; simpa only [if_neg h0] using this
      simp only [Sem.run_bind, if_neg h0, hzr, Result.andThen_ok, Sem.run_pure, vcells_eq hz]
      rw [e1]
      simp only [List.map_toArray] at hf ⊢
      rw [hf]
      rfl
  rw [hb]
  rfl

/-- make([]T, m) -/
theorem J.make {α : Type} {enc : α → List Value} (z0 : α) {t e : TypeId} {x y : Operand} {m : Nat} {kl kc : IntKind} {s1 s2 b1 b2 : Nat} {z1 : Option Value} {z : Value} {de : TypeDesc} (hΓ : Fits P Γ) (hg : wantB n f l0 ⟨some d, .makeSlice t x y, ty, pos, aft, g⟩ = true)
    (hx : Cx.ev n f x = .int kl (m : Int)) (hy : Cx.ev n f y = .int kc (m : Int)) (ht : look Γ t = some ⟨.slice e, s1, z1, b1⟩) (he : look Γ e = some ⟨de, s2, some z, b2⟩) (hz : vcells z = some (enc z0)) (hE : ∀ t, (enc t).length = s2) (hb : b2 * m ≤ 281474976710656) (h63 : m ≤ 9223372036854775807)
    (k : ∀ b h, OwT enc s2 e (some ⟨b, 0, none⟩) m (List.replicate m z0) h → J P n w0 R l0 K rest (upd f d (.slice (some ⟨b, 0, none⟩) m m)) (h :: L)) : J P n w0 R l0 K ((κ + 2, ⟨some d, .makeSlice t x y, ty, pos, aft, g⟩) :: rest) f L := by
  refine J.vg (Φ := fun v h => ∃ b, v = .slice (some ⟨b, 0, none⟩) m m ∧ h = [(b, .cells ⟨zrep m (enc z0)⟩ e (0, 0))]) hg
    (fun w hw => ⟨.slice (some ⟨w.heap.size, 0, none⟩) m m, _, w.alloc (.cells ⟨zrep m (enc z0)⟩ e (0, 0)), ?_, hw.alloc _, w.heap.size, rfl, rfl⟩)
    (fun v L' ⟨b, h1, h2⟩ => by
      subst h1; subst h2
      refine k b _ ⟨hE, .inr ⟨b, zrep m (enc z0), rfl, rfl, ?_, by simp, ?_⟩⟩
      · rw [zrep_len, hE]
      · rw [zrep_flat, List.take_of_length_le (by rw [flat_len hE]; exact Nat.le_refl _)])
  have hu := (hΓ t _ ht).1
  obtain ⟨hue, ie, hie, hse, hze, hbe⟩ := hΓ e _ he
  have hb' : (ie.bytes : Int) * (m : Int) ≤ 281474976710656 := by
    have h1 : ((b2 * m : Nat) : Int) ≤ 281474976710656 := by omega
    rw [Int.natCast_mul] at h1
    rw [hbe]
    exact h1
  have hrun := run_make (P := P) w t e ie z hu hie hze kl kc m m (by omega) (by omega) hb' (by omega)
  have hmade : madeCells z.cells ((m : Int).toNat * ie.size) = (zrep m (enc z0)).toArray := by
    unfold madeCells
    rw [vcells_eq hz, hse]
    have := made_eq (enc z0) m
    rw [hE] at this
    simpa [hE] using this
  rw [hmade] at hrun
  simp only [execOp, hx, hy, Sem.run_bind]
  rw [hrun]
  rfl
end
end Go.Cx
