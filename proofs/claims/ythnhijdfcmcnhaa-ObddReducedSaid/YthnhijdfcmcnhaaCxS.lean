/-
  Further rules of the layer: a part of a string from one place to another.
-/
import Derived.Test.YthnhijdfcmcnhaaCxM
namespace Go.Cx
open Go Go.RowKit
set_option linter.unusedVariables false
set_option linter.unusedSimpArgs false
section
variable {P : Program} {n : Nat} {w0 : World} {R : Heap} {l0 : List Oper} {K : Exit → Fr → List Heap → Prop} {f : Fr} {L : List Heap} {rest : List (Nat × Oper)} {κ : Nat}
variable {Γ : List (Nat × TI)} {d : Nat} {op : Op} {ty : TypeId} {pos : String} {aft : Array Edge} {g : Option (Nat × Bool)} {t u : TypeId} {x y z : Operand} {a b : List UInt8}
theorem J.sB {ki kj : IntKind} {i j : Int} {s1 b1 : Nat} {z1 : Option Value} (hΓ : Fits P Γ)
    (k : J P n w0 R l0 K rest (upd f d (.string (S ((a.drop i.toNat).take (j.toNat - i.toNat))))) L)
    (hg : wantB n f l0 ⟨some d, .slice t x (some y) (some z) none, ty, pos, aft, g⟩ = true := by exact rfl) (hx : Cx.ev n f x = .string (S a) := by exact rfl) (hy : Cx.ev n f y = .int ki i := by exact rfl) (hz : Cx.ev n f z = .int kj j := by exact rfl) (ht : look Γ t = some ⟨.string, s1, z1, b1⟩ := by exact rfl) (h0 : 0 ≤ i := by omega) (h1 : i ≤ j := by omega) (h2 : j ≤ (a.length : Int) := by first | omega | (simp only [List.length_append, List.length_cons, List.length_nil]; omega)) :
    J P n w0 R l0 K ((κ, ⟨some d, .slice t x (some y) (some z) none, ty, pos, aft, g⟩) :: rest) f L :=
  J.p hg (fun w => by
    have hu := (hΓ t _ ht).1
    have h3 : 0 ≤ j := by omega
    have : (Instr.sliceAt t (.string (S a)) (some (.int ki i)) (some (.int kj j)) none).run P w = .ok (.string (S ((a.drop i.toNat).take (j.toNat - i.toNat)))) w := by
      rw [run_sliceAt_string w t _ _ _ _ hu]
      unfold Instr.slice Instr.sliceBounds Instr.sliceBound
      simp only [asIntOf, Sem.run_bind, Sem.run_pure, Result.andThen_ok, run_underlying hu]
      simp [S_size, h0, h1, h2, h3, S_extract, go_sem]
      intro hlt
      exfalso
      omega
    simp only [execOp, hx, hy, hz, Sem.run_bind, Option.map_some, Option.map_none]
    rw [this]
    rfl) k
theorem J.sb8 {a b : Int} (k : J P n w0 R l0 K rest (upd f d (.int .u8 (a - b))) L) (hg : wantB n f l0 ⟨some d, .binOp .sub t x y u, ty, pos, aft, g⟩ = true := by exact rfl) (hx : Cx.ev n f x = .int .u8 a := by exact rfl) (hy : Cx.ev n f y = .int .u8 b := by exact rfl) (h : 0 ≤ a - b ∧ a - b ≤ 255 := by omega) :
    J P n w0 R l0 K ((κ, ⟨some d, .binOp .sub t x y u, ty, pos, aft, g⟩) :: rest) f L :=
  J.p hg (bin_run hx hy (fun w => by simp [binOp, Op.intArith, wrap_u8 h, go_sem])) k
end
section
variable {P : Program} {n : Nat} {w0 : World} {R : Heap} {l0 : List Oper} {K : Exit → Fr → List Heap → Prop} {f : Fr} {L : List Heap} {rest : List (Nat × Oper)} {κ : Nat}
variable {Γ : List (Nat × TI)} {d : Nat} {op : Op} {ty : TypeId} {pos : String} {aft : Array Edge} {g : Option (Nat × Bool)}
variable {α : Type} {enc : α → List Value} {size : Nat} {e : TypeId} {a : Option Addr} {cap : Nat} {ts : List α} {h : Heap}
/-- append of a literal's elements, two blocks between the literal and the slice -/
theorem J.app1c {a1 a2 : Heap} {t : TypeId} {x y : Operand} {len m c gx : Nat} {cl : List Value} {fr : Nat × Nat} {e' s1 b1 b2 : Nat} {z1 : Option Value} {z : Value} {zc : List Value} {de : TypeDesc} (us : List α) (hΓ : Fits P Γ)
    (k : ∀ a' cap' h', OwT enc size e a' cap' (ts ++ us) h' → J P n w0 R l0 K rest (upd f d (.slice a' (ts ++ us).length cap')) (a1 :: a2 :: h' :: L))
    (hg : wantB n f l0 ⟨some d, .call ⟨.builtin .append, ⟨[x, y]⟩, ⟨[t, t]⟩⟩, ty, pos, aft, g⟩ = true := by exact rfl)
    (hx : Cx.ev n f x = .slice a len cap := by exact rfl) (hy : Cx.ev n f y = .slice (some ⟨gx, 0, none⟩) m c := by exact rfl) (ht : look Γ t = some ⟨.slice e, s1, z1, b1⟩ := by exact rfl) (he : look Γ e = some ⟨de, size, some z, b2⟩ := by exact rfl) (hz : vcells z = some zc := by exact rfl) (hzl : Nat.beq zc.length size = true := by exact rfl)
    (ho : OwT enc size e a cap ts h := by assumption) (hlen : ts.length = len := by first | rfl | assumption | omega) (hus : us.flatMap enc = cl := by exact rfl) (hm : us.length = m := by exact rfl) (h1 : ones cl = true := by exact rfl) (hpos : 0 < m := by omega) (hb : (len + m) * b2 ≤ 140737488355328 := by omega) (h63 : len + m ≤ 9223372036854775807 := by omega) :
    J P n w0 R l0 K ((2, ⟨some d, .call ⟨.builtin .append, ⟨[x, y]⟩, ⟨[t, t]⟩⟩, ty, pos, aft, g⟩) :: rest) f ([(gx, .cells ⟨cl⟩ e' fr)] :: a1 :: a2 :: h :: L) := by
  have hll : (ts ++ us).length = len + m := by rw [List.length_append, hlen, hm]
  rw [hll] at k
  exact J.perm ((((List.Perm.swap _ _ _).cons _).trans (List.Perm.swap _ _ _)).cons _) (J.app1 us hΓ hg hx hy ht he hz hzl ho hlen hus hm h1 hpos hb h63 (fun a' cap' h' o' => J.perm ((List.Perm.swap _ _ _).trans ((List.Perm.swap _ _ _).cons _)) (k a' cap' h' o')))
end
section
variable {P : Program} {fn : Func} {n : Nat} {w0 : World} {R : Heap} {Post : Ending → World → Prop} {f : Fr} {L : List Heap} {Γ : List (Nat × TI)}
/-- Two results: one lies in a variable of its own, the other in a slot. -/
theorem retCS {t ty b u : Nat} {cs : List Value} {e : TypeId} {fr : Nat × Nat} {v x : Value} (hΓ : Fits P Γ) (hr : fn.results = #[.cell t ty, .tmp u]) (ht : Nat.blt t n = true) (hu : Nat.blt u n = true) (hv : f t = .pointer (some ⟨b, 0, none⟩)) (hb : Rd R L b (.cells ⟨cs⟩ e fr)) (hl : ldEv Γ ty cs 0 = some v) (hx : frc (f u) = some x)
    (h : ∀ w, H w0 R L w → Post (.returned (.tuple #[v, x])) w) : retK P fn n w0 R Post .ret f L := fun a w ha hw => by
  refine ⟨.tuple #[v, x], ?_, h w hw⟩
  have h1 := ldEv_ok (P := P) hΓ (hw.rd hb) hl
  unfold Instr.loadAt Instr.sureAddr at h1
  simp only [Sem.run_bind, Sem.run_pure, Result.andThen_ok] at h1
  have h2 := ha.getD ht
  rw [hv] at h2
  have h3 : a.tmps[t]?.getD undef = .pointer (some ⟨b, 0, none⟩) := by rw [← h2]; simp [Array.getD_eq_getD_getElem?]
  have h4 := ha.getD hu
  have h5 : a.tmps[u]?.getD undef = x := by rw [← frc_eq hx, ← h4]; simp [Array.getD_eq_getD_getElem?]
  simp only [results, hr]
  simp [h3, h5, asAddr, Sem.run_bind]
  rw [h1]
  rfl
end
end Go.Cx
