/-
  The layer's rules for append.
-/
import Derived.Test.YthnhijdfcmcnhaaCxH
namespace Go.Cx
open Go Go.RowKit
set_option linter.unusedVariables false
set_option linter.unusedSimpArgs false

theorem putL_take : ∀ (cs : List Value) (k : Nat) (l : List Value) (m : Nat), (putL cs k l).take m = putL (cs.take m) k l
  | [], k, l, m => by simp [putL]
  | c :: cs, k, l, 0 => by simp [putL]
  | c :: cs, k + 1, l, m + 1 => by simp only [putL, List.take_succ_cons]; rw [putL_take cs k l m]
  | c :: cs, 0, [], m + 1 => by simp only [putL, List.take_succ_cons]
  | c :: cs, 0, x :: l, m + 1 => by simp only [putL, List.take_succ_cons]; rw [putL_take cs 0 l m]
theorem putL_right : ∀ (a b : List Value) (k : Nat) (l : List Value), putL (a ++ b) (a.length + k) l = a ++ putL b k l
  | [], b, k, l => by simp
  | c :: a, b, k, l => by
    rw [List.cons_append, List.length_cons, Nat.add_right_comm, putL, putL_right a b k l]
    rfl
theorem putL_left : ∀ (a b : List Value) (k : Nat) (l : List Value), k + l.length ≤ a.length → putL (a ++ b) k l = putL a k l ++ b
  | [], b, k, l, h => by
    simp at h
    obtain ⟨rfl, rfl⟩ := h
    simp [putL_nil]
  | c :: a, b, k + 1, l, h => by
    simp only [List.cons_append, putL]
    rw [putL_left a b k l (by simp at h; omega)]
  | c :: a, b, 0, [], h => by simp [putL]
  | c :: a, b, 0, x :: l, h => by
    simp only [List.cons_append, putL]
    rw [putL_left a b 0 l (by simp at h ⊢; omega)]
theorem put_flat {α : Type} {enc : α → List Value} {size : Nat} (hl : ∀ t, (enc t).length = size) (u : α) (o : Nat) (cl : List Value) (hle : o + cl.length ≤ size) : ∀ (ts : List α) (i : Nat) (hi : i < ts.length), enc u = putL (enc ts[i]) o cl →
    putL (ts.flatMap enc) (i * size + o) cl = (ts.set i u).flatMap enc
  | t :: ts, 0, _, h => by
    rw [Nat.zero_mul, Nat.zero_add, List.flatMap_cons, putL_left _ _ _ _ (by rw [hl]; exact hle), List.set_cons_zero, List.flatMap_cons, h]
    rfl
  | t :: ts, i + 1, hi, h => by
    have ih := put_flat hl u o cl hle ts i (by simpa using hi) (by simpa using h)
    rw [List.set_cons_succ, List.flatMap_cons, List.flatMap_cons, ← ih, ← putL_right, hl]
    congr 1
    rw [Nat.add_mul]
    omega

theorem ones_append {a b : List Value} (ha : ones a = true) (hb : ones b = true) : ones (a ++ b) = true := by
  induction a with
  | nil => exact hb
  | cons x a ih => cases x <;> simp only [ones, List.cons_append] at ha ⊢ <;> first | (cases ha; done) | exact ih ha
theorem ones_flat {α : Type} {enc : α → List Value} (h : ∀ t, ones (enc t) = true) (ts : List α) : ones (ts.flatMap enc) = true := by
  induction ts with
  | nil => rfl
  | cons t ts ih => rw [List.flatMap_cons]; exact ones_append (h t) ih

section
variable {P : Program} {n : Nat} {w0 : World} {R : Heap} {l0 : List Oper} {K : Exit → Fr → List Heap → Prop} {f : Fr} {L : List Heap} {rest : List (Nat × Oper)} {κ : Nat}
variable {Γ : List (Nat × TI)} {d : Nat} {op : Op} {ty : TypeId} {pos : String} {aft : Array Edge} {g : Option (Nat × Bool)}
variable {α : Type} {enc : α → List Value} {a : Option Addr} {ts us : List α} {h : Heap} {size e cap : Nat}

theorem app_run (hΓ : Fits P Γ) {t ty' : TypeId} {s1 b1 b2 : Nat} {z1 : Option Value} {z : Value} {zc : List Value} {de : TypeDesc} (ht : look Γ t = some ⟨.slice e, s1, z1, b1⟩) (he : look Γ e = some ⟨de, size, some z, b2⟩) (hz : vcells z = some zc) (hzl : zc.length = size)
    {w : World} (hw : H w0 R (h :: L) w) (ho : OwT enc size e a cap ts h) {ad : Addr} {c : Nat} (hnews : ∀ j u, (us.flatMap enc)[j]? = some u → w.cell? (ad.add j) = some u) (h1 : ones (us.flatMap enc) = true) (hm : 0 < us.length)
    (hb : (ts.length + us.length) * b2 ≤ 140737488355328) (h63 : ts.length + us.length ≤ 9223372036854775807) :
    ∃ a' cap' h' w', (Builtin.append_ #[t, t] ty' #[.slice a ts.length cap, .slice (some ad) us.length c]).run P w = .ok (.slice a' (ts.length + us.length) cap') w' ∧ H w0 R (h' :: L) w' ∧ OwT enc size e a' cap' (ts ++ us) h' := by
  have hu := (hΓ t _ ht).1
  obtain ⟨hue, ie, hie, hse, hze, hbe⟩ := hΓ e _ he
  have hl : (us.flatMap enc).length = us.length * ie.size := by rw [flat_len ho.len, hse]
  have hzs : z.cells.size = size := by rw [vcells_eq hz]; simpa using hzl
  have hsz : ie.size = size := hse
  rcases ho.row with ⟨rfl, rfl, rfl, rfl⟩ | ⟨gb, cs, rfl, rfl, hc1, hc2, hc3⟩
  · -- nothing yet
    have hrun := run_append_nil (P := P) w t ty' e ie z hu hie hze ad us.length c (us.flatMap enc) hl hnews hm (by simp at h63; omega) (by rw [hbe]; show us.length * b2 ≤ _; simp at hb; omega)
    have hge := grownCap_ge w us.length 0 e
    refine ⟨some ⟨w.heap.size, 0, none⟩, grownCap w us.length 0 e, _, _, ?_, (hw.drop.drew (w.drawn + 1)).alloc (.cells ((us.flatMap enc).toArray ++ Builtin.zeroCells z.cells (grownCap w us.length 0 e - us.length)) e), ?_⟩
    · simp only [List.length_nil, Nat.zero_add]
      exact hrun
    · refine ⟨ho.len, .inr ⟨w.heap.size, (us.flatMap enc) ++ (Builtin.zeroCells z.cells (grownCap w us.length 0 e - us.length)).toList, rfl, ?_, ?_, ?_, ?_⟩⟩
      · simp
      · simp only [List.length_append, Array.length_toList, size_zeroCells, hzs, flat_len ho.len]
        rw [← Nat.add_mul]
        congr 1
        omega
      · simpa using hge
      · simp only [List.nil_append]
        rw [List.take_append_of_le_length (by rw [flat_len ho.len]; exact Nat.le_refl _), List.take_of_length_le (by rw [flat_len ho.len]; exact Nat.le_refl _)]
  · have hg : w.heap[gb]? = some (.cells cs.toArray e (0, 0)) := hw.own (gb, _) (by simp)
    by_cases hroom : ts.length + us.length ≤ cap
    · -- there is room
      have hfit : ts.length * ie.size + (us.flatMap enc).length ≤ cs.toArray.size := by
        rw [hl, ← Nat.add_mul, hsz]
        simp only [List.size_toArray, hc1]
        exact Nat.mul_le_mul_right _ hroom
      have hrun := run_append_room (P := P) w t ty' e ie hu hie gb ts.length cap cs.toArray hg ad us.length c (us.flatMap enc) hl hnews (ones_ok h1) hroom hfit
      refine ⟨_, _, [(gb, .cells ⟨ts.flatMap enc ++ us.flatMap enc ++ cs.drop (ts.length * ie.size + (us.flatMap enc).length)⟩ e (0, 0))], _, hrun, ?_, ?_⟩
      · refine hw.write rfl rfl rfl (by simp) ?_ (fun k hk => setRow_other _ _ _ _ hk)
        rw [setRow_heap w gb _ _ e _ hg]
        simp only [hsz, hc3]
      · refine ⟨ho.len, .inr ⟨gb, _, rfl, rfl, ?_, ?_, ?_⟩⟩
        · simp only [List.length_append, List.length_drop, flat_len ho.len, hsz, hc1]
          simp only [List.size_toArray, hc1, hl, hsz] at hfit
          have := hfit
          omega
        · simpa using hroom
        · rw [List.flatMap_append, List.take_append_of_le_length (by rw [List.length_append, List.length_append, flat_len ho.len, flat_len ho.len, Nat.add_mul]; exact Nat.le_refl _)]
          rw [List.take_of_length_le (by rw [List.length_append, List.length_append, flat_len ho.len, flat_len ho.len, Nat.add_mul]; exact Nat.le_refl _)]
    · -- a new row
      have hlt : cap < ts.length + us.length := by omega
      have hadd : ∀ j, (⟨gb, 0, none⟩ : Addr).add j = ⟨gb, j, none⟩ := fun j => by unfold Addr.add; split <;> simp_all
      have hfit : Builtin.nextslicecap (ts.length + us.length) cap * ie.bytes ≤ 281474976710656 := by
        have h2 := nextslicecap_le hlt
        have h3 : Builtin.nextslicecap (ts.length + us.length) cap * b2 ≤ (2 * (ts.length + us.length)) * b2 := Nat.mul_le_mul_right _ h2
        rw [Nat.mul_assoc] at h3
        rw [hbe]
        show _ * b2 ≤ _
        omega
      have hrun := run_append_grow (P := P) w t ty' e ie z hu hie hze ⟨gb, 0, none⟩ ts.length cap (ts.flatMap enc) (by rw [flat_len ho.len, hsz]) (fun j v hj => by
          rw [hadd, cell_of_row w gb j cs.toArray e (0, 0) hg]
          rw [← hc3, List.getElem?_take] at hj
          split at hj
          · simpa using hj
          · cases hj) ad us.length c (us.flatMap enc) hl hnews hlt (by omega) hfit
      have hge := grownCap_ge w (ts.length + us.length) cap e
      refine ⟨_, _, _, _, hrun, (hw.drop.drew (w.drawn + 1)).alloc _, ?_⟩
      refine ⟨ho.len, .inr ⟨w.heap.size, ts.flatMap enc ++ us.flatMap enc ++ (Builtin.zeroCells z.cells (grownCap w (ts.length + us.length) cap e - (ts.length + us.length))).toList, rfl, ?_, ?_, ?_, ?_⟩⟩
      · simp
      · simp only [List.length_append, Array.length_toList, size_zeroCells, hzs, flat_len ho.len]
        rw [← Nat.add_mul, ← Nat.add_mul]
        congr 1
        omega
      · simpa using hge
      · rw [List.flatMap_append, List.take_append_of_le_length (by rw [List.length_append, List.length_append, flat_len ho.len, flat_len ho.len, Nat.add_mul]; exact Nat.le_refl _)]
        rw [List.take_of_length_le (by rw [List.length_append, List.length_append, flat_len ho.len, flat_len ho.len, Nat.add_mul]; exact Nat.le_refl _)]

/-- append(xs, ..) of a literal's elements: the literal's block stands first, the slice's behind it. -/
theorem J.app1 {t : TypeId} {x y : Operand} {len m c gx : Nat} {cl : List Value} {fr : Nat × Nat} {e' s1 b1 b2 : Nat} {z1 : Option Value} {z : Value} {zc : List Value} {de : TypeDesc} (us : List α) (hΓ : Fits P Γ) (hg : wantB n f l0 ⟨some d, .call ⟨.builtin .append, ⟨[x, y]⟩, ⟨[t, t]⟩⟩, ty, pos, aft, g⟩ = true)
    (hx : Cx.ev n f x = .slice a len cap) (hy : Cx.ev n f y = .slice (some ⟨gx, 0, none⟩) m c) (ht : look Γ t = some ⟨.slice e, s1, z1, b1⟩) (he : look Γ e = some ⟨de, size, some z, b2⟩) (hz : vcells z = some zc) (hzl : Nat.beq zc.length size = true)
    (ho : OwT enc size e a cap ts h) (hlen : ts.length = len) (hus : us.flatMap enc = cl) (hm : us.length = m) (h1 : ones cl = true) (hpos : 0 < m) (hb : (len + m) * b2 ≤ 140737488355328) (h63 : len + m ≤ 9223372036854775807)
    (k : ∀ a' cap' h', OwT enc size e a' cap' (ts ++ us) h' → J P n w0 R l0 K rest (upd f d (.slice a' (len + m) cap')) (h' :: L)) :
    J P n w0 R l0 K ((2, ⟨some d, .call ⟨.builtin .append, ⟨[x, y]⟩, ⟨[t, t]⟩⟩, ty, pos, aft, g⟩) :: rest) f ([(gx, .cells ⟨cl⟩ e' fr)] :: h :: L) := by
  subst hlen hm hus
  refine J.v (Φ := fun v L' => ∃ a' cap' h', v = .slice a' (ts.length + us.length) cap' ∧ L' = h' :: L ∧ OwT enc size e a' cap' (ts ++ us) h') hg (fun w hw => ?_) (fun v L' ⟨a', cap', h', e1, e2, e3⟩ => by subst e1; subst e2; exact k a' cap' h' e3)
  have hgx : w.heap[gx]? = some (.cells (us.flatMap enc).toArray e' fr) := hw.own (gx, _) (by simp)
  have hadd : ∀ j, (⟨gx, 0, none⟩ : Addr).add j = ⟨gx, j, none⟩ := fun j => by unfold Addr.add; split <;> simp_all
  obtain ⟨a', cap', h', w', hr, hw', ho'⟩ := app_run (P := P) (ty' := ty) (us := us) (ad := ⟨gx, 0, none⟩) (c := c) hΓ ht he hz (Nat.eq_of_beq_eq_true hzl) hw.drop ho
    (fun j u hj => by rw [hadd, cell_of_row w gx j _ e' fr hgx]; simpa using hj) h1 hpos hb h63
  refine ⟨_, _, w', ?_, hw', a', cap', h', rfl, rfl, ho'⟩
  have h2 : (⟨[x, y]⟩ : Array Operand).map (Cx.ev n f) = #[.slice a ts.length cap, .slice (some ⟨gx, 0, none⟩) us.length c] := by simp [hx, hy]
  simp only [execOp, resolve, h2, Sem.run_bind, Sem.run_pure, Result.andThen_ok, invoke, builtin]
  rw [hr]
  rfl

/-- append(xs, ys...) -/
theorem J.appS {t : TypeId} {x y : Operand} {len m c : Nat} {b : Option Addr} {hs : Heap} {s1 b1 b2 : Nat} {z1 : Option Value} {z : Value} {zc : List Value} {de : TypeDesc} (hΓ : Fits P Γ) (hg : wantB n f l0 ⟨some d, .call ⟨.builtin .append, ⟨[x, y]⟩, ⟨[t, t]⟩⟩, ty, pos, aft, g⟩ = true)
    (hx : Cx.ev n f x = .slice a len cap) (hy : Cx.ev n f y = .slice b m c) (ht : look Γ t = some ⟨.slice e, s1, z1, b1⟩) (he : look Γ e = some ⟨de, size, some z, b2⟩) (hz : vcells z = some zc) (hzl : Nat.beq zc.length size = true)
    (ho : OwT enc size e a cap ts h) (hlen : ts.length = len) (hus : SlT enc size b us hs) (hm : us.length = m) (hr : RdH R (h :: L) hs) (h1 : ∀ t, ones (enc t) = true) (hpos : 0 < m) (hb : (len + m) * b2 ≤ 140737488355328) (h63 : len + m ≤ 9223372036854775807)
    (k : ∀ a' cap' h', OwT enc size e a' cap' (ts ++ us) h' → J P n w0 R l0 K rest (upd f d (.slice a' (len + m) cap')) (h' :: L)) :
    J P n w0 R l0 K ((2, ⟨some d, .call ⟨.builtin .append, ⟨[x, y]⟩, ⟨[t, t]⟩⟩, ty, pos, aft, g⟩) :: rest) f (h :: L) := by
  subst hlen hm
  refine J.v (Φ := fun v L' => ∃ a' cap' h', v = .slice a' (ts.length + us.length) cap' ∧ L' = h' :: L ∧ OwT enc size e a' cap' (ts ++ us) h') hg (fun w hw => ?_) (fun v L' ⟨a', cap', h', e1, e2, e3⟩ => by subst e1; subst e2; exact k a' cap' h' e3)
  obtain ⟨bb, off, cs0, e0, fr0, rfl, hm0, _, _⟩ := hus.at_ 0 hpos
  obtain ⟨a', cap', h', w', hrn, hw', ho'⟩ := app_run (P := P) (ty' := ty) (us := us) (ad := ⟨bb, off, none⟩) (c := c) hΓ ht he hz (Nat.eq_of_beq_eq_true hzl) hw ho
    (fun j u hj => by
      have hsz : 0 < size := by
        rcases Nat.eq_zero_or_pos size with h0 | h0
        · have hl0 := flat_len ho.len us
          rw [h0, Nat.mul_zero] at hl0
          rw [List.eq_nil_of_length_eq_zero hl0] at hj
          simp at hj
        · exact h0
      have hjl : j < us.length * size := by rw [← flat_len ho.len]; exact (List.getElem?_eq_some_iff.1 hj).1
      have hi : j / size < us.length := Nat.div_lt_of_lt_mul (by rw [Nat.mul_comm]; exact hjl)
      obtain ⟨b2', off2, cs, e2, fr2, e1, hm2, hf2, hc2⟩ := hus.at_ (j / size) hi
      simp only [Option.some.injEq, Addr.mk.injEq, and_true] at e1
      obtain ⟨rfl, rfl⟩ := e1
      have hadd : (⟨bb, off, none⟩ : Addr).add j = ⟨bb, off + j, none⟩ := by unfold Addr.add; split <;> simp_all
      have hbk := hw.rd (hr _ hm2)
      rw [hadd, cell_of_row w bb (off + j) _ e2 fr2 hbk]
      have hfa := flat_at ho.len us (j / size) hi
      have hmod : j / size * size + j % size = j := by rw [Nat.mul_comm]; exact Nat.div_add_mod j size
      have hml := Nat.mod_lt j hsz
      have e3 : ((us.flatMap enc).drop (j / size * size) |>.take size)[j % size]? = some u := by
        rw [List.getElem?_take, if_pos hml, List.getElem?_drop, hmod, hj]
      rw [hfa, ← hc2, List.getElem?_take, if_pos hml, List.getElem?_drop] at e3
      rw [show off + j = off + j / size * size + j % size by omega]
      simpa using e3) (ones_flat h1 us) hpos hb h63
  refine ⟨_, _, w', ?_, hw', a', cap', h', rfl, rfl, ho'⟩
  have h2 : (⟨[x, y]⟩ : Array Operand).map (Cx.ev n f) = #[.slice a ts.length cap, .slice (some ⟨bb, off, none⟩) us.length c] := by simp [hx, hy]
  simp only [execOp, resolve, h2, Sem.run_bind, Sem.run_pure, Result.andThen_ok, invoke, builtin]
  rw [hrn]
  rfl

/-- A store into an element of a slice of the call's own, which stands first. -/
theorem J.stT {t : TypeId} {x y : Operand} {ti : TI} {cl cl' : List Value} {i o : Nat} (u : α) (dflt : α) (hΓ : Fits P Γ) (hg : wantB n f l0 ⟨none, .store t x y, ty, pos, aft, g⟩ = true) (hx : Cx.ev n f x = pel a size i o) (ht : look Γ t = some ti)
    (hv : vcells (Cx.ev n f y) = some cl) (hn : Nat.beq cl.length ti.size = true) (h1 : ones cl = true) (ho : OwT enc size e a cap ts h) (hi : i < ts.length) (hcl : putE (enc (ts.getD i dflt)) o cl = some cl') (hu : enc u = cl')
    (k : ∀ h', OwT enc size e a cap (ts.set i u) h' → J P n w0 R l0 K rest f (h' :: L)) : J P n w0 R l0 K ((2, ⟨none, .store t x y, ty, pos, aft, g⟩) :: rest) f (h :: L) := by
  rcases ho.row with ⟨rfl, rfl, rfl, rfl⟩ | ⟨gb, cs, rfl, rfl, hc1, hc2, hc3⟩
  · simp at hi
  · unfold putE at hcl
    have hgd : ts.getD i dflt = ts[i] := by simp [hi]
    rw [hgd] at hcl
    have hi1 : (i + 1) * size ≤ ts.length * size := Nat.mul_le_mul_right _ hi
    have hi2 : ts.length * size ≤ cap * size := Nat.mul_le_mul_right _ hc2
    rw [Nat.add_mul, Nat.one_mul] at hi1
    cases hle : Nat.ble (o + cl.length) (enc ts[i]).length with
    | false => rw [hle] at hcl; cases hcl
    | true =>
      rw [hle] at hcl
      simp only [cond_true, forceL_eq, Option.some.injEq] at hcl
      have hle' := Nat.le_of_ble_eq_true hle
      rw [ho.len] at hle'
      have hp : i * size + o + cl.length ≤ cs.length := by omega
      have hpt : Cx.ev n f x = .pointer (some ⟨gb, i * size + o, none⟩) := by
        rw [hx]
        unfold pel Addr.add
        simp only [Option.getD_some]
        split <;> simp_all
      refine J.s hg (fun w hw => ?_) (k [(gb, .cells ⟨putL cs (i * size + o) cl⟩ e (0, 0))] ⟨ho.len, .inr ⟨gb, _, rfl, rfl, by rw [putL_length, hc1], by simpa using hc2, ?_⟩⟩)
      · obtain ⟨w', hr, hw'⟩ := store_ok hΓ ht hv hn h1 hp rfl hw
        exact ⟨w', by simp only [execOp, hpt, Sem.run_bind]; rw [hr]; rfl, hw'⟩
      · -- what the cells are behind the store
        rw [List.length_set]
        rw [putL_take, hc3]
        exact put_flat ho.len u o cl hle' ts i hi (by rw [hu, hcl])
theorem J.stT1 {a1 : Heap} {t : TypeId} {x y : Operand} {ti : TI} {cl cl' : List Value} {i o : Nat} (u : α) (dflt : α) (hΓ : Fits P Γ) (hg : wantB n f l0 ⟨none, .store t x y, ty, pos, aft, g⟩ = true) (hx : Cx.ev n f x = pel a size i o) (ht : look Γ t = some ti)
    (hv : vcells (Cx.ev n f y) = some cl) (hn : Nat.beq cl.length ti.size = true) (h1 : ones cl = true) (ho : OwT enc size e a cap ts h) (hi : i < ts.length) (hcl : putE (enc (ts.getD i dflt)) o cl = some cl') (hu : enc u = cl')
    (k : ∀ h', OwT enc size e a cap (ts.set i u) h' → J P n w0 R l0 K rest f (a1 :: h' :: L)) : J P n w0 R l0 K ((2, ⟨none, .store t x y, ty, pos, aft, g⟩) :: rest) f (a1 :: h :: L) :=
  J.perm (.swap _ _ _) (J.stT u dflt hΓ hg hx ht hv hn h1 ho hi hcl hu (fun h' ho' => J.perm (.swap _ _ _) (k h' ho')))
theorem J.stT2 {a1 a2 : Heap} {t : TypeId} {x y : Operand} {ti : TI} {cl cl' : List Value} {i o : Nat} (u : α) (dflt : α) (hΓ : Fits P Γ) (hg : wantB n f l0 ⟨none, .store t x y, ty, pos, aft, g⟩ = true) (hx : Cx.ev n f x = pel a size i o) (ht : look Γ t = some ti)
    (hv : vcells (Cx.ev n f y) = some cl) (hn : Nat.beq cl.length ti.size = true) (h1 : ones cl = true) (ho : OwT enc size e a cap ts h) (hi : i < ts.length) (hcl : putE (enc (ts.getD i dflt)) o cl = some cl') (hu : enc u = cl')
    (k : ∀ h', OwT enc size e a cap (ts.set i u) h' → J P n w0 R l0 K rest f (a1 :: a2 :: h' :: L)) : J P n w0 R l0 K ((2, ⟨none, .store t x y, ty, pos, aft, g⟩) :: rest) f (a1 :: a2 :: h :: L) :=
  J.perm ((List.Perm.swap _ _ _).cons _) (J.stT1 u dflt hΓ hg hx ht hv hn h1 ho hi hcl hu (fun h' ho' => J.perm ((List.Perm.swap _ _ _).cons _) (k h' ho')))
theorem J.stT3 {a1 a2 a3 : Heap} {t : TypeId} {x y : Operand} {ti : TI} {cl cl' : List Value} {i o : Nat} (u : α) (dflt : α) (hΓ : Fits P Γ) (hg : wantB n f l0 ⟨none, .store t x y, ty, pos, aft, g⟩ = true) (hx : Cx.ev n f x = pel a size i o) (ht : look Γ t = some ti)
    (hv : vcells (Cx.ev n f y) = some cl) (hn : Nat.beq cl.length ti.size = true) (h1 : ones cl = true) (ho : OwT enc size e a cap ts h) (hi : i < ts.length) (hcl : putE (enc (ts.getD i dflt)) o cl = some cl') (hu : enc u = cl')
    (k : ∀ h', OwT enc size e a cap (ts.set i u) h' → J P n w0 R l0 K rest f (a1 :: a2 :: a3 :: h' :: L)) : J P n w0 R l0 K ((2, ⟨none, .store t x y, ty, pos, aft, g⟩) :: rest) f (a1 :: a2 :: a3 :: h :: L) :=
  J.perm (((List.Perm.swap _ _ _).cons _).cons _) (J.stT2 u dflt hΓ hg hx ht hv hn h1 ho hi hcl hu (fun h' ho' => J.perm (((List.Perm.swap _ _ _).cons _).cons _) (k h' ho')))
end
end Go.Cx
