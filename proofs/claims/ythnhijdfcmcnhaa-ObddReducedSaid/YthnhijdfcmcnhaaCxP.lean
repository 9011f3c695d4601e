/-
  Further rules of the layer: entries of a map literal, a look-up in a nil map, clear of a slice's end.
-/
import Derived.Test.YthnhijdfcmcnhaaCxZ
import Derived.Test.YthnhijdfcmcnhaaCxO
namespace Go.Cx
open Go Go.RowKit Go.Maps
set_option linter.unusedVariables false
set_option linter.unusedSimpArgs false
section
variable {P : Program} {n : Nat} {w0 : World} {R : Heap} {K0 : Exit → Fr → List Heap → Prop} {f : Fr} {L : List Heap} {l0 : List Oper} {rest : List (Nat × Oper)} {q : Nat}
variable {Γ : List (Nat × TI)} {d : Nat} {ty : TypeId} {pos : String} {aft : Array Edge} {g : Option (Nat × Bool)}
variable {κ β : Type} [DecidableEq κ] {kt e : TypeId} {ek : κ → Value} {ev : β → Value}
/-- an entry of a map literal; the map's fragment lies first -/
theorem J.ins {t : TypeId} {m x v : Operand} {mm : List (κ × β)} {b : Nat} {h : Heap} {a : κ} (y : β) {s1 b1 : Nat} {z1 : Option Value} (K : Keyed P kt) (inj : ∀ x y, ek x = ek y → x = y) (mt : MapT P kt ek ev mm b h) (hkey : ∃ l, keyOf P kt (ek a) = some l) (hΓ : Fits P Γ)
    (k : ∀ h', MapT P kt ek ev (mput mm a y) b h' → J P n w0 R l0 K0 rest f (h' :: L))
    (hg : wantB n f l0 ⟨none, .insert t m x v, ty, pos, aft, g⟩ = true := by exact rfl) (hm : Cx.ev n f m = .map (some b) := by exact rfl) (hx : Cx.ev n f x = ek a := by exact rfl) (hv : Cx.ev n f v = ev y := by exact rfl) (ht : look Γ t = some ⟨.map kt e, s1, z1, b1⟩ := by exact rfl) :
    J P n w0 R l0 K0 ((2, ⟨none, .insert t m x v, ty, pos, aft, g⟩) :: rest) f (h :: L) := fun ac ha w hC => by
  have hw : Region.wanted (⟨none, .insert t m x v, ty, pos, aft, g⟩ : Oper) (yielded l0.toArray ac.tmps) = true := by rw [ha.wanted, hg]
  obtain ⟨w', h', hrun, hH, mt'⟩ := mt.update K inj (hΓ t _ ht).1 a hkey y hC
  unfold lop
  rw [if_pos hw]
  unfold Oper.wp
  rw [ha.eval]
  simp only [execOp, hm, hx, hv, Sem.run_bind, hrun]
  exact ⟨_, fun h => absurd rfl h, hH, k h' mt' _ (ha.put none undef)⟩
omit [DecidableEq κ] in
/-- m[x] where m is nil -/
theorem J.lkN {t : TypeId} {m x : Operand} {c : Bool} {a : κ} {z : Value} {s1 s2 b1 b2 : Nat} {z1 : Option Value} {de : TypeDesc} (K : Keyed P kt) (ek : κ → Value) (hkey : ∃ l, keyOf P kt (ek a) = some l) (hΓ : Fits P Γ)
    (k : J P n w0 R l0 K0 rest (upd f d (if c then .tuple #[z, .bool false] else z)) L)
    (hg : wantB n f l0 ⟨some d, .lookup t m x c, ty, pos, aft, g⟩ = true := by exact rfl) (hm : Cx.ev n f m = .map none := by exact rfl) (hx : Cx.ev n f x = ek a := by exact rfl) (ht : look Γ t = some ⟨.map kt e, s1, z1, b1⟩ := by exact rfl) (he : look Γ e = some ⟨de, s2, some z, b2⟩ := by exact rfl) :
    J P n w0 R l0 K0 ((q + 1, ⟨some d, .lookup t m x c, ty, pos, aft, g⟩) :: rest) f L := by
  obtain ⟨_, ie, hie, _, hze, _⟩ := hΓ e _ he
  have hzr : ∀ w, (zeroValue e).run P w = .ok z w := fun w => by simp [zeroValue, typeInfo, hie, hze, go_sem]
  obtain ⟨l, hl⟩ := hkey
  refine J.q hg (fun w hw => ?_) k
  have : (Instr.lookup t (.map none) (ek a) c).run P w = .ok (if c then .tuple #[z, .bool false] else z) w := by
    have hf : (Instr.findKey kt (ek a) []).run P w = .ok none w := by
      rcases K.find w hl [] (fun e he => by cases he) with h | ⟨j, e, _, h, _⟩
      · exact h.1
      · cases h
    cases c <;> simp [Instr.lookup, run_underlying (hΓ t _ ht).1, K.check w _ hl, hf, hzr w, Result.andThen]
  simp only [execOp, hm, hx, Sem.run_bind]
  rw [this]
  rfl
end
section
variable {P : Program} {n : Nat} {w0 : World} {R : Heap} {l0 : List Oper} {K : Exit → Fr → List Heap → Prop} {f : Fr} {L : List Heap} {rest : List (Nat × Oper)} {κ : Nat}
variable {Γ : List (Nat × TI)} {d : Nat} {ty : TypeId} {pos : String} {aft : Array Edge} {g : Option (Nat × Bool)}
/-- a closure made; its captured values are named -/
theorem J.mfV {fn : Fn} {cs : List Operand} (vs : List Value) (hΓ : Fits P Γ) (k : J P n w0 R l0 K rest (upd f d (.func fn ⟨[]⟩ ⟨vs⟩)) L) (hg : wantB n f l0 ⟨some d, .makeFunc fn ⟨[]⟩ ⟨cs⟩, ty, pos, aft, g⟩ = true := by exact rfl) (hv : cs.map (Cx.ev n f) = vs := by exact rfl) : J P n w0 R l0 K ((κ, ⟨some d, .makeFunc fn ⟨[]⟩ ⟨cs⟩, ty, pos, aft, g⟩) :: rest) f L := by
  subst hv
  exact J.mf hΓ k hg
end
/-- fragments made one, and parted -/
theorem H.eq_mg {w0 : World} {R a b : Heap} {L : List Heap} : H w0 R (a :: b :: L) = H w0 R ((a ++ b) :: L) := by
  have e : (a :: b :: L).flatten = ((a ++ b) :: L).flatten := by simp
  funext w
  exact propext ⟨fun h => ⟨h.below, h.old, e ▸ h.own, e ▸ h.new, e ▸ h.nodup⟩, fun h => ⟨h.below, h.old, e ▸ h.own, e ▸ h.new, e ▸ h.nodup⟩⟩
theorem H.eq_perm {w0 : World} {R : Heap} {L L' : List Heap} (hp : L.Perm L') : H w0 R L = H w0 R L' := funext fun w => propext ⟨fun h => h.perm hp, fun h => h.perm hp.symm⟩
section
variable {P : Program} {n : Nat} {w0 : World} {R : Heap} {K : Exit → Fr → List Heap → Prop} {f : Fr} {L L' : List Heap}
theorem J.eqH {l0 : List Oper} {l : List (Nat × Oper)} (e : H w0 R L = H w0 R L') (k : J P n w0 R l0 K l f L') : J P n w0 R l0 K l f L := fun a ha => by
  rw [e]
  exact k a ha
theorem JC.weak {c : Code} (e : ∀ w, H w0 R L w → H w0 R L' w) (k : JC P n w0 R c K f L') : JC P n w0 R c K f L := fun a w ha hw => k a w ha (e w hw)
/-- A loop whose fragments may be rearranged, made one, parted and dropped at each round's end. -/
theorem JC.loopG {c : Code} (ws : Nat → Bool) (I : Nat → Fr → List Heap → Prop) (m0 : Nat) (h0 : I m0 f L)
    (round : ∀ m g L', I m g L' → JC P n w0 R c (loopK ws f (fun m g L => ∃ L2, I m g L2 ∧ ∀ w, H w0 R L w → H w0 R L2 w) m K) (havoc ws f g) L') : JC P n w0 R (.loop c) K f L :=
  JC.loop ws (fun m g L => ∃ L2, I m g L2 ∧ ∀ w, H w0 R L w → H w0 R L2 w) m0 ⟨L, h0, fun _ h => h⟩ (fun m g L' ⟨L2, hI, hL⟩ => JC.weak hL (round m g L2 hI))
end
end Go.Cx
