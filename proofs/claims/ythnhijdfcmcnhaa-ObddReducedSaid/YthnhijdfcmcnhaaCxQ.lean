/-
  Fragments chosen by their places.
-/
import Derived.Test.YthnhijdfcmcnhaaCxP
namespace Go.Cx
open Go Go.RowKit
set_option linter.unusedVariables false
/-- the fragments at the places f of l -/
def selF (l : List Heap) : List Nat → List Heap
  | [] => []
  | i :: f => l.getD i [] :: selF l f
theorem selF_mem (l : List Heap) (x : Heap) : ∀ f : List Nat, x ∈ selF l f → ∃ i, i ∈ f ∧ x = l.getD i []
  | [], h => by cases h
  | i :: f, h => by
    rcases List.mem_cons.1 h with rfl | h
    · exact ⟨i, List.mem_cons_self, rfl⟩
    · obtain ⟨j, hj, e⟩ := selF_mem l x f h
      exact ⟨j, List.mem_cons_of_mem _ hj, e⟩
def apart (a b : Heap) : Prop := ∀ x, x ∈ a.map (·.1) → ∀ y, y ∈ b.map (·.1) → x ≠ y
theorem apart.symm {a b : Heap} (h : apart a b) : apart b a := fun x hx y hy e => h y hy x hx e.symm
theorem nodup_frags (L : List Heap) : (L.flatten.map (·.1)).Nodup ↔ (∀ a, a ∈ L → (a.map (·.1)).Nodup) ∧ L.Pairwise apart := by
  rw [List.map_flatten]
  unfold List.Nodup
  rw [List.pairwise_flatten]
  constructor
  · rintro ⟨h1, h2⟩
    have h3 := List.pairwise_map.1 h2
    exact ⟨fun a ha => h1 _ (List.mem_map_of_mem ha), h3⟩
  · rintro ⟨h1, h2⟩
    have h3 : (L.map (List.map (·.1))).Pairwise (fun l₁ l₂ => ∀ (x : Nat), x ∈ l₁ → ∀ (y : Nat), y ∈ l₂ → x ≠ y) := List.pairwise_map.2 h2
    refine ⟨fun a ha => ?_, h3⟩
    obtain ⟨b, hb, rfl⟩ := List.mem_map.1 ha
    exact h1 b hb
theorem getD_in (l : List Heap) (i : Nat) (hi : i < l.length) : l.getD i [] ∈ l := by
  rw [List.getD_eq_getElem?_getD, List.getElem?_eq_getElem hi]
  exact List.getElem_mem hi
theorem selF_apart (l : List Heap) (hp : l.Pairwise apart) : ∀ f : List Nat, f.Nodup → (∀ i, i ∈ f → i < l.length) → (selF l f).Pairwise apart
  | [], _, _ => List.Pairwise.nil
  | i :: f, hn, hb => by
    rw [List.nodup_cons] at hn
    refine List.pairwise_cons.2 ⟨fun x hx => ?_, selF_apart l hp f hn.2 fun j hj => hb j (List.mem_cons_of_mem _ hj)⟩
    obtain ⟨j, hj, rfl⟩ := selF_mem l x f hx
    have hi := hb i List.mem_cons_self
    have hj2 := hb j (List.mem_cons_of_mem _ hj)
    have hne : i ≠ j := fun e => hn.1 (e ▸ hj)
    rw [List.getD_eq_getElem?_getD, List.getElem?_eq_getElem hi, List.getD_eq_getElem?_getD, List.getElem?_eq_getElem hj2]
    rcases Nat.lt_or_gt_of_ne hne with h | h
    · exact List.pairwise_iff_getElem.1 hp i j hi hj2 h
    · exact (List.pairwise_iff_getElem.1 hp j i hj2 hi h).symm
/-- fragments chosen: 'M' are those behind -/
theorem H.sel {w0 w : World} {R : Heap} {l M : List Heap} (h : H w0 R (l ++ M) w) (f : List Nat) (hn : f.Nodup := by decide) (hb : (f.all fun i => decide (i < l.length)) = true := by rfl) : H w0 R (selF l f ++ M) w := by
  have hb' : ∀ i, i ∈ f → i < l.length := fun i hi => by simpa using List.all_eq_true.1 hb i hi
  have hs : ∀ a, a ∈ selF l f ++ M → a ∈ l ++ M := fun a ha => by
    rcases List.mem_append.1 ha with ha | ha
    · obtain ⟨i, hi, rfl⟩ := selF_mem l a f ha
      exact List.mem_append_left _ (getD_in l i (hb' i hi))
    · exact List.mem_append_right _ ha
  have hx : ∀ x, x ∈ (selF l f ++ M).flatten → x ∈ (l ++ M).flatten := fun x hx => by
    obtain ⟨a, ha, hxa⟩ := List.mem_flatten.1 hx
    exact List.mem_flatten.2 ⟨a, hs a ha, hxa⟩
  refine ⟨h.below, h.old, fun x hx' => h.own x (hx x hx'), fun x hx' => h.new x (hx x hx'), ?_⟩
  obtain ⟨h1, h2⟩ := (nodup_frags _).1 h.nodup
  refine (nodup_frags _).2 ⟨fun a ha => h1 a (hs a ha), ?_⟩
  rw [List.pairwise_append] at h2 ⊢
  refine ⟨selF_apart l h2.1 f hn hb', h2.2.1, fun a ha b hb => ?_⟩
  obtain ⟨i, hi, rfl⟩ := selF_mem l a f ha
  exact h2.2.2 _ (getD_in l i (hb' i hi)) b hb
section
variable {P : Program} {n : Nat} {w0 : World} {R : Heap} {L0 : List Heap} {l0 : List Oper} {K : Exit → Fr → List Heap → Prop} {f : Fr} {L : List Heap}
/-- three are ready -/
theorem Br.three {lo gr : List Nat} {m m1 m2 m3 c1 c2 c3 : Nat} {listed listed1 listed2 listed3 : Array Bool} {o1 o2 o3 : Oper} (k1 k2 k3 : Nat) (ps1 ps2 ps3 : List (Nat × Nat)) (hr : decide (Region.ready .any l0.toArray listed = [k1, k2, k3]) = true) (e1 : l0[k1]? = some o1) (e2 : l0[k2]? = some o2) (e3 : l0[k3]? = some o3)
    (hB1 : (Region.noSelect l0.toArray && hasN lo k1 && (hasN gr k1 == Nat.beq c1 1) && Nat.ble c1 1 && Nat.beq (ps1.length + 1 + m1) m && ps1.all (fun p => Nat.blt p.2 l0.length) && lexE .any l0.toArray lo gr ps1 (listed.setIfInBounds k1 true)) = true) (hl1 : setAll ps1 (listed.setIfInBounds k1 true) = listed1)
    (hB2 : (Region.noSelect l0.toArray && hasN lo k2 && (hasN gr k2 == Nat.beq c2 1) && Nat.ble c2 1 && Nat.beq (ps2.length + 1 + m2) m && ps2.all (fun p => Nat.blt p.2 l0.length) && lexE .any l0.toArray lo gr ps2 (listed.setIfInBounds k2 true)) = true) (hl2 : setAll ps2 (listed.setIfInBounds k2 true) = listed2)
    (hB3 : (Region.noSelect l0.toArray && hasN lo k3 && (hasN gr k3 == Nat.beq c3 1) && Nat.ble c3 1 && Nat.beq (ps3.length + 1 + m3) m && ps3.all (fun p => Nat.blt p.2 l0.length) && lexE .any l0.toArray lo gr ps3 (listed.setIfInBounds k3 true)) = true) (hl3 : setAll ps3 (listed.setIfInBounds k3 true) = listed3)
    (h1 : JE P n w0 R L0 l0 (brK P n w0 R L0 lo gr l0 K m1 listed1) ((c1 + 2, o1) :: picks l0 ps1) f L) (h2 : JE P n w0 R L0 l0 (brK P n w0 R L0 lo gr l0 K m2 listed2) ((c2 + 2, o2) :: picks l0 ps2) f L) (h3 : JE P n w0 R L0 l0 (brK P n w0 R L0 lo gr l0 K m3 listed3) ((c3 + 2, o3) :: picks l0 ps3) f L) : Br P n w0 R L0 lo gr l0 K m listed f L := fun a w ha hw hc => by
  have hr' := of_decide_eq_true hr
  have hm : m = (m - 1) + 1 := by
    simp only [Bool.and_eq_true] at hB1
    have := Nat.eq_of_beq_eq_true hB1.1.1.2
    omega
  rw [hm]
  refine ⟨fun h => (by rw [hr'] at h; cases h), fun j hj => .inl ?_⟩
  have hj' := hj
  rw [hr'] at hj'
  rcases List.mem_cons.1 hj' with rfl | hj'
  · exact Br.step ps1 e1 hj hc hB1 hl1 h1 ha hw
  rcases List.mem_cons.1 hj' with rfl | hj'
  · exact Br.step ps2 e2 hj hc hB2 hl2 h2 ha hw
  · rw [List.mem_singleton] at hj'
    subst hj'
    exact Br.step ps3 e3 hj hc hB3 hl3 h3 ha hw
/-- what holds behind a piece of code, said once: ws may be written -/
def midK (ws : Nat → Bool) (f0 : Fr) (Q : Fr → List Heap → Prop) : Exit → Fr → List Heap → Prop
  | .normal, f, L => Ag ws f0 f ∧ Q f L
  | _, _, _ => False
theorem midK.nn {ws : Nat → Bool} {f0 : Fr} {Q : Fr → List Heap → Prop} (ha : Ag ws f0 f) (h : Q f L) : midK ws f0 Q .normal f L := ⟨ha, h⟩
theorem JC.mid {c : Code} (ws : Nat → Bool) (Q : Fr → List Heap → Prop) (h1 : JC P n w0 R c (midK ws f Q) f L) (h2 : ∀ g L', Q g L' → K .normal (havoc ws f g) L') : JC P n w0 R c K f L :=
  JC.mono h1 fun e F L' h => by
    cases e with
    | normal =>
      have := h2 F L' h.2
      rw [h.1.eq] at this
      exact this
    | _ => exact h.elim
end
section
variable {P : Program} {n : Nat} {w0 : World} {R : Heap} {l0 : List Oper} {K : Exit → Fr → List Heap → Prop} {f : Fr} {L : List Heap} {rest : List (Nat × Oper)}
variable {Γ : List (Nat × TI)} {d : Nat} {ty : TypeId} {pos : String} {aft : Array Edge} {g : Option (Nat × Bool)}
variable {α : Type} {enc : α → List Value} {size : Nat} {e : TypeId} {a : Option Addr} {cap : Nat} {ts us : List α} {h : Heap}
theorem app_empty {w : World} (hΓ : Fits P Γ) {t ty' : TypeId} {s1 b1 b2 : Nat} {z1 : Option Value} {z : Value} {de : TypeDesc} {len c : Nat} {b : Option Addr} (ht : look Γ t = some ⟨.slice e, s1, z1, b1⟩) (he : look Γ e = some ⟨de, size, some z, b2⟩) (hc : len ≤ cap) :
    (Builtin.append_ #[t, t] ty' #[.slice a len cap, .slice b 0 c]).run P w = .ok (.slice a len cap) w := by
  have hu := (hΓ t _ ht).1
  have hsz := sizeOf_run hΓ he w
  unfold Builtin.append_
  cases a <;> cases b <;> simp [Sem.run_bind, run_underlying hu, hsz, Builtin.lenOf, Builtin.firstCells, loadCells, loadCellsFrom, storeCells, hc, Result.andThen, go_sem]
/-- append(x, y...), y may be empty -/
theorem J.apA {t : TypeId} {x y : Operand} {len m c : Nat} {b : Option Addr} {hs : Heap} {s1 b1 b2 : Nat} {z1 : Option Value} {z : Value} {zc : List Value} {de : TypeDesc} (hΓ : Fits P Γ) (ho : OwT enc size e a cap ts h) (hus : SlT enc size b us hs) (hr : RdH R (h :: L) hs)
    (k : ∀ a' cap' h', OwT enc size e a' cap' (ts ++ us) h' → J P n w0 R l0 K rest (upd f d (.slice a' (ts ++ us).length cap')) (h' :: L))
    (hg : wantB n f l0 ⟨some d, .call ⟨.builtin .append, ⟨[x, y]⟩, ⟨[t, t]⟩⟩, ty, pos, aft, g⟩ = true := by exact rfl)
    (hx : Cx.ev n f x = .slice a len cap := by exact rfl) (hy : Cx.ev n f y = .slice b m c := by exact rfl) (ht : look Γ t = some ⟨.slice e, s1, z1, b1⟩ := by exact rfl) (he : look Γ e = some ⟨de, size, some z, b2⟩ := by exact rfl) (hz : vcells z = some zc := by exact rfl) (hzl : Nat.beq zc.length size = true := by exact rfl)
    (hlen : ts.length = len := by first | rfl | assumption | omega) (hm : us.length = m := by first | rfl | assumption | omega) (h1 : ∀ t, ones (enc t) = true := by intro _; rfl) (hb : (len + m) * b2 ≤ 140737488355328 := by omega) (h63 : len + m ≤ 9223372036854775807 := by omega) :
    J P n w0 R l0 K ((2, ⟨some d, .call ⟨.builtin .append, ⟨[x, y]⟩, ⟨[t, t]⟩⟩, ty, pos, aft, g⟩) :: rest) f (h :: L) := by
  have hll : (ts ++ us).length = len + m := by rw [List.length_append, hlen, hm]
  rcases Nat.eq_zero_or_pos us.length with h0 | hpos
  · have hun : us = [] := List.eq_nil_of_length_eq_zero h0
    subst hun
    subst hm
    subst hlen
    have hcap : ts.length ≤ cap := by
      rcases ho.row with ⟨_, rfl, rfl, _⟩ | ⟨_, _, _, _, _, hc, _⟩
      · exact Nat.le_refl _
      · exact hc
    have k' := k a cap h (by rw [List.append_nil]; exact ho)
    rw [List.append_nil] at k'
    refine J.v (Φ := fun v L' => v = .slice a ts.length cap ∧ L' = h :: L) hg (fun w hw => ⟨_, _, w, ?_, hw, rfl, rfl⟩) (fun v L' ⟨e1, e2⟩ => by subst e1; subst e2; exact k')
    have h2 : (⟨[x, y]⟩ : Array Operand).map (Cx.ev n f) = #[.slice a ts.length cap, .slice b 0 c] := by simp [hx, hy]
    simp only [execOp, resolve, h2, Sem.run_bind, Sem.run_pure, Result.andThen_ok, invoke, builtin]
    rw [app_empty hΓ ht he hcap]
    rfl
  · refine J.appS hΓ hg hx hy ht he hz hzl ho hlen hus hm hr h1 (by omega) hb h63 (fun a' cap' h' o' => ?_)
    have := k a' cap' h' o'
    rw [hll] at this
    exact this
end
end Go.Cx
