/-
  Arrays whose elements are met at an index that is not known; structs compared.
-/
import Derived.Test.YthnhijdfcmcnhaaCxN
namespace Go.Cx
open Go Go.RowKit
set_option linter.unusedVariables false
set_option linter.unusedSimpArgs false
section
variable {P : Program} {n : Nat} {w0 : World} {R : Heap} {l0 : List Oper} {K : Exit → Fr → List Heap → Prop} {f : Fr} {L : List Heap} {rest : List (Nat × Oper)} {κ : Nat}
variable {Γ : List (Nat × TI)} {d : Nat} {op : Op} {ty : TypeId} {pos : String} {aft : Array Edge} {g : Option (Nat × Bool)}
variable {α : Type} {enc : α → List Value} {size : Nat} {e : TypeId} {a : Option Addr} {cap : Nat} {ts : List α} {h : Heap}
/-- an array variable: m elements, each the zero value z -/
theorem J.alA {t : TypeId} {ti : TI} {zv : Value} {cl : List Value} (enc : α → List Value) (size m : Nat) (z : α) (hle : ∀ x, (enc x).length = size) (hΓ : Fits P Γ) (k : ∀ b h, OwT enc size t (some ⟨b, 0, none⟩) m (List.replicate m z) h → J P n w0 R l0 K rest (upd f d (.pointer (some ⟨b, 0, none⟩))) (h :: L))
    (hg : wantB n f l0 ⟨some d, .alloc t, ty, pos, aft, g⟩ = true := by exact rfl) (ht : look Γ t = some ti := by exact rfl) (hz : ti.zero = some zv := by exact rfl) (hc : vcells zv = some cl := by exact rfl) (hcl : (List.replicate m z).flatMap enc = cl := by kernel_rfl) : J P n w0 R l0 K ((κ + 2, ⟨some d, .alloc t, ty, pos, aft, g⟩) :: rest) f L :=
  J.alloc hΓ hg ht hz hc (fun b => k b _ ⟨hle, .inr ⟨b, cl, rfl, rfl, by rw [← hcl, flat_len hle, List.length_replicate], by simp, by rw [hcl]; exact List.take_of_length_le (by rw [← hcl, flat_len hle]; exact Nat.le_refl _)⟩⟩)
theorem pel_arr (b s j : Nat) : Value.pointer (some ⟨b, 0 + j * s, none⟩) = pel (some ⟨b, 0, none⟩) s j 0 := by
  unfold pel Addr.add
  simp only [Option.getD_some, Nat.add_zero]
  split
  · rename_i h; rw [h]
  · rfl
/-- the address of an element -/
theorem J.iP {t e : TypeId} {m : Nat} {i : Int} {ki : IntKind} {bb : Nat} {s1 s2 b1 b2 : Nat} {z1 z2 : Option Value} {de : TypeDesc} {x y : Operand} (hΓ : Fits P Γ) (k : J P n w0 R l0 K rest (upd f d (pel (some ⟨bb, 0, none⟩) s2 i.toNat 0)) L)
    (hg : wantB n f l0 ⟨some d, .indexAddr t x y, ty, pos, aft, g⟩ = true := by exact rfl) (hx : Cx.ev n f x = .pointer (some ⟨bb, 0, none⟩) := by exact rfl) (hy : Cx.ev n f y = .int ki i := by exact rfl)
    (ht : look Γ t = some ⟨.array m e, s1, z1, b1⟩ := by exact rfl) (he : look Γ e = some ⟨de, s2, z2, b2⟩ := by exact rfl) (h0 : 0 ≤ i := by omega) (hi : i < (m : Int) := by omega) : J P n w0 R l0 K ((κ, ⟨some d, .indexAddr t x y, ty, pos, aft, g⟩) :: rest) f L :=
  J.idxA hΓ hg hx hy ht he h0 hi rfl (by rw [pel_arr]; exact k)
/-- the whole array -/
theorem J.lA {t e' : TypeId} {m s1 b1 : Nat} {z1 : Option Value} {x : Operand} {bb : Nat} (hΓ : Fits P Γ) (ho : OwT enc size e (some ⟨bb, 0, none⟩) m ts h) (hr : RdH R L h) (hl : ts.length = m) (k : J P n w0 R l0 K rest (upd f d (.agg ⟨ts.flatMap enc⟩)) L)
    (hg : wantB n f l0 ⟨some d, .load t x, ty, pos, aft, g⟩ = true := by exact rfl) (hx : Cx.ev n f x = .pointer (some ⟨bb, 0, none⟩) := by exact rfl) (ht : look Γ t = some ⟨.array m e', s1, z1, b1⟩ := by exact rfl) (hs : m * size = s1 := by exact rfl) : J P n w0 R l0 K ((κ + 1, ⟨some d, .load t x, ty, pos, aft, g⟩) :: rest) f L := by
  rcases ho.row with ⟨h1, _⟩ | ⟨gg, cs, h1, h2, h3, h4, h5⟩
  · cases h1
  · obtain rfl : bb = gg := by simpa using h1
    have hcs : cs = ts.flatMap enc := by rw [← h5, List.take_of_length_le (by rw [h3, hl]; exact Nat.le_refl _)]
    subst h2
    refine J.load hΓ hg hx (hr _ (List.mem_singleton.2 rfl)) ?_ k
    unfold ldEv
    rw [ht]
    simp only [forceL_eq, List.drop_zero, Nat.zero_add]
    have h6 : cs.length = s1 := by rw [h3, hs]
    rw [← h6, show Nat.ble cs.length cs.length = true by simp, List.take_length, hcs]
    rfl
/-- an element of an array value -/
theorem J.xA {t e' : TypeId} {m s1 b1 s2 b2 : Nat} {z1 z2 : Option Value} {fs : Array Field} {i : Int} {ki : IntKind} {x y : Operand} (dflt : α) (hΓ : Fits P Γ) (hle : ∀ x, (enc x).length = size) (hl : ts.length = m) (k : J P n w0 R l0 K rest (upd f d (.agg ⟨enc (ts.getD i.toNat dflt)⟩)) L)
    (hg : wantB n f l0 ⟨some d, .index t x y, ty, pos, aft, g⟩ = true := by exact rfl) (hx : Cx.ev n f x = .agg ⟨ts.flatMap enc⟩ := by exact rfl) (hy : Cx.ev n f y = .int ki i := by exact rfl)
    (ht : look Γ t = some ⟨.array m e', s1, z1, b1⟩ := by exact rfl) (he : look Γ e' = some ⟨.struct fs, s2, z2, b2⟩ := by exact rfl) (hs : size = s2 := by exact rfl) (h0 : 0 ≤ i := by omega) (hlt : i < (m : Int) := by omega) : J P n w0 R l0 K ((κ, ⟨some d, .index t x y, ty, pos, aft, g⟩) :: rest) f L :=
  J.p hg (fun w => by
    have hlt' : i.toNat < ts.length := by omega
    have hp : (part e' (ts.flatMap enc).toArray (i.toNat * s2)).run P w = .ok (.agg ⟨enc (ts.getD i.toNat dflt)⟩) w := by
      refine partEv_ok hΓ ?_ w
      unfold partEv
      rw [he, ← hs]
      simp only
      rw [flat_at hle ts i.toNat hlt', List.getD_eq_getElem?_getD, List.getElem?_eq_getElem hlt']
      rfl
    have hsz := sizeOf_run hΓ he w
    have : (Instr.index t (.agg ⟨ts.flatMap enc⟩) (.int ki i)).run P w = .ok (.agg ⟨enc (ts.getD i.toNat dflt)⟩) w := by
      unfold Instr.index
      simp only [asIntOf, Sem.run_bind, Sem.run_pure, Result.andThen_ok, run_underlying (hΓ t _ ht).1]
      rw [if_pos ⟨h0, hlt⟩]
      simp only [Sem.run_bind, hsz, Result.andThen_ok]
      exact hp
    simp only [execOp, hx, hy, Sem.run_bind, this, Result.andThen_ok]
    rfl) k
/-- structs compared -/
theorem J.eT {u : TypeId} {t : TypeId} {x y : Operand} {xs ys : List Value} {fs : List Field} {s1 b1 : Nat} {z1 : Option Value} {r : Bool} (hΓ : Fits P Γ) (k : J P n w0 R l0 K rest (upd f d (.bool r)) L) (hg : wantB n f l0 ⟨some d, .binOp .eql t x y u, ty, pos, aft, g⟩ = true := by exact rfl) (hx : Cx.ev n f x = .agg ⟨xs⟩ := by exact rfl) (hy : Cx.ev n f y = .agg ⟨ys⟩ := by exact rfl)
    (ht : look Γ t = some ⟨.struct ⟨fs⟩, s1, z1, b1⟩ := by exact rfl) (h1 : P.eqGuardType P.depth t = false := by kernel_rfl) (h2 : P.stoodInHeld t = false := by kernel_rfl) (h3 : (fs.all fun f => f.name != "_") = true := by kernel_rfl) (hr : eqF Γ fs xs ys = some r := by exact rfl) : J P n w0 R l0 K ((κ, ⟨some d, .binOp .eql t x y u, ty, pos, aft, g⟩) :: rest) f L :=
  J.p hg (fun w => by
    have hu := (hΓ t _ ht).1
    have hfs : P.fieldsOf t = ⟨fs⟩ := by unfold Program.fieldsOf; rw [hu]
    have hn : ∀ f, f ∈ fs → f.name ≠ "_" := fun f hf => by simpa using List.all_eq_true.1 h3 f hf
    simp only [execOp, hx, hy, Sem.run_bind]
    rw [run_eqGuard_agg w .eql t x y _ _ h1]
    simp only [Result.andThen_ok]
    rw [run_eql_struct, run_equalIn_agg w 9999 t _ _ (by rw [hu, hfs]) h2, hfs, eqF_ok hΓ 9998 xs ys fs r hn hr]
    rfl) k
/-- .. that is known -/
theorem J.xU {t e' : TypeId} {m s1 b1 s2 b2 : Nat} {z1 z2 : Option Value} {fs : Array Field} {i : Int} {ki : IntKind} {x y : Operand} (u : α) (dflt : α) (hΓ : Fits P Γ) (hle : ∀ x, (enc x).length = size) (hl : ts.length = m) (hu : ts.getD i.toNat dflt = u) (k : J P n w0 R l0 K rest (upd f d (.agg ⟨enc u⟩)) L)
    (hg : wantB n f l0 ⟨some d, .index t x y, ty, pos, aft, g⟩ = true := by exact rfl) (hx : Cx.ev n f x = .agg ⟨ts.flatMap enc⟩ := by exact rfl) (hy : Cx.ev n f y = .int ki i := by exact rfl)
    (ht : look Γ t = some ⟨.array m e', s1, z1, b1⟩ := by exact rfl) (he : look Γ e' = some ⟨.struct fs, s2, z2, b2⟩ := by exact rfl) (hs : size = s2 := by exact rfl) (h0 : 0 ≤ i := by omega) (hlt : i < (m : Int) := by omega) : J P n w0 R l0 K ((κ, ⟨some d, .index t x y, ty, pos, aft, g⟩) :: rest) f L :=
  J.xA dflt hΓ hle hl (by rw [hu]; exact k) hg hx hy ht he hs h0 hlt
/-- append of a literal block: the block first, the slice second -/
theorem J.ap1 {t : TypeId} {x y : Operand} {len m c gx : Nat} {cl : List Value} {fr : Nat × Nat} {e' s1 b1 b2 : Nat} {z1 : Option Value} {z : Value} {zc : List Value} {de : TypeDesc} (us : List α) (hΓ : Fits P Γ)
    (k : ∀ a' cap' h', OwT enc size e a' cap' (ts ++ us) h' → J P n w0 R l0 K rest (upd f d (.slice a' (ts ++ us).length cap')) (h' :: L))
    (hg : wantB n f l0 ⟨some d, .call ⟨.builtin .append, ⟨[x, y]⟩, ⟨[t, t]⟩⟩, ty, pos, aft, g⟩ = true := by exact rfl)
    (hx : Cx.ev n f x = .slice a len cap := by exact rfl) (hy : Cx.ev n f y = .slice (some ⟨gx, 0, none⟩) m c := by exact rfl) (ht : look Γ t = some ⟨.slice e, s1, z1, b1⟩ := by exact rfl) (he : look Γ e = some ⟨de, size, some z, b2⟩ := by exact rfl) (hz : vcells z = some zc := by exact rfl) (hzl : Nat.beq zc.length size = true := by exact rfl)
    (ho : OwT enc size e a cap ts h := by assumption) (hlen : ts.length = len := by first | rfl | assumption | omega) (hus : us.flatMap enc = cl := by exact rfl) (hm : us.length = m := by exact rfl) (h1 : ones cl = true := by exact rfl) (hpos : 0 < m := by omega) (hb : (len + m) * b2 ≤ 140737488355328 := by first | omega | (simp only [List.length_append, List.length_cons, List.length_nil]; omega)) (h63 : len + m ≤ 9223372036854775807 := by first | omega | (simp only [List.length_append, List.length_cons, List.length_nil]; omega)) :
    J P n w0 R l0 K ((2, ⟨some d, .call ⟨.builtin .append, ⟨[x, y]⟩, ⟨[t, t]⟩⟩, ty, pos, aft, g⟩) :: rest) f ([(gx, .cells ⟨cl⟩ e' fr)] :: h :: L) := by
  have hll : (ts ++ us).length = len + m := by rw [List.length_append, hlen, hm]
  rw [hll] at k
  exact J.app1 us hΓ hg hx hy ht he hz hzl ho hlen hus hm h1 hpos hb h63 k
end
section
variable {β : Type} {a b c d e f g h : β} {L : List β}
theorem br1 : (a :: b :: L).Perm (b :: a :: L) := .swap _ _ _
theorem br2 : (a :: b :: c :: L).Perm (c :: a :: b :: L) := (br1.cons _).trans br1
theorem br3 : (a :: b :: c :: d :: L).Perm (d :: a :: b :: c :: L) := (br2.cons _).trans br1
theorem br4 : (a :: b :: c :: d :: e :: L).Perm (e :: a :: b :: c :: d :: L) := (br3.cons _).trans br1
theorem br5 : (a :: b :: c :: d :: e :: f :: L).Perm (f :: a :: b :: c :: d :: e :: L) := (br4.cons _).trans br1
theorem br6 : (a :: b :: c :: d :: e :: f :: g :: L).Perm (g :: a :: b :: c :: d :: e :: f :: L) := (br5.cons _).trans br1
theorem br7 : (a :: b :: c :: d :: e :: f :: g :: h :: L).Perm (h :: a :: b :: c :: d :: e :: f :: g :: L) := (br6.cons _).trans br1
end
/-- a frame of which a few slots are kept -/
def pins : List (Nat × Value) → Fr → Fr
  | [], f => f
  | (i, v) :: l, f => upd (pins l f) i v
def agrees : List (Nat × Value) → Fr → Prop
  | [], _ => True
  | (i, v) :: l, f => f i = v ∧ agrees l f
theorem pins_of : ∀ (l : List (Nat × Value)) (f : Fr), agrees l f → pins l f = f
  | [], _, _ => rfl
  | (i, v) :: l, f, h => by
    show upd (pins l f) i v = f
    rw [pins_of l f h.2]
    funext j
    by_cases hj : j = i
    · subst hj; rw [upd_same, h.1]
    · exact upd_ne f v hj
theorem JC.gen {P : Program} {n : Nat} {w0 : World} {R : Heap} {K : Exit → Fr → List Heap → Prop} {c : Code} {f : Fr} {L : List Heap} (l : List (Nat × Value)) (ha : agrees l f) (k : ∀ F, JC P n w0 R c K (pins l F) L) : JC P n w0 R c K f L := by
  rw [← pins_of l f ha]
  exact k f
theorem sub_flat {a b : List Heap} (h : a.Sublist b) : a.flatten.Sublist b.flatten := by
  induction h with
  | slnil => exact List.Sublist.refl _
  | cons x _ ih => rw [List.flatten_cons]; exact ih.trans (List.sublist_append_right _ _)
  | cons_cons x _ ih => rw [List.flatten_cons, List.flatten_cons]; exact (List.Sublist.refl _).append ih
/-- fragments let go -/
theorem H.subl {w0 w : World} {R : Heap} {L L' : List Heap} (h : H w0 R L w) (hs : L'.Sublist L) : H w0 R L' w :=
  ⟨h.below, h.old, h.own.mono fun x hx => (sub_flat hs).subset hx, fun x hx => h.new x ((sub_flat hs).subset hx), List.Nodup.sublist ((sub_flat hs).map _) h.nodup⟩
/-- two fragments made one -/
theorem H.mg1 {w0 w : World} {R a b : Heap} {L : List Heap} (h : H w0 R (a :: b :: L) w) : H w0 R ((a ++ b) :: L) w := by
  have e : (a :: b :: L).flatten = ((a ++ b) :: L).flatten := by simp
  exact ⟨h.below, h.old, e ▸ h.own, e ▸ h.new, e ▸ h.nodup⟩
theorem SlT.sub {α : Type} {enc : α → List Value} {size : Nat} {a : Option Addr} {ts : List α} {h h' : Heap} (hs : SlT enc size a ts h) (hh : ∀ x, x ∈ h → x ∈ h') : SlT enc size a ts h' :=
  ⟨hs.len, fun i hi => by obtain ⟨b, off, cs, e, fr, h1, h2, h3, h4⟩ := hs.at_ i hi; exact ⟨b, off, cs, e, fr, h1, hh _ h2, h3, h4⟩⟩
end Go.Cx
