/- EncodeLong: append to a full slice, contracts. -/
import Derived.Test.YtinpcimogojefaaPc
import Derived.Test.YtinpcimogojefaaPf
namespace Go.Proofs.Ytinpcimogojefaa
open Go Go.Cx Go.RowKit
set_option linter.unusedVariables false
set_option linter.unusedSimpArgs false
set_option maxHeartbeats 4000000
attribute [local irreducible] J JC thenK blockK loopK roundK drawK retK QW Qt pel List.set Calls
attribute [local irreducible] JE Br eK0 eK2 eK3 brK
section
variable {P : Program} {n : Nat} {w0 : World} {R : Heap} {l0 : List Oper} {K : Exit → Fr → List Heap → Prop} {f : Fr} {L : List Heap} {rest : List (Nat × Oper)}
variable {Γ : List (Nat × TI)} {d : Nat} {ty : TypeId} {pos : String} {aft : Array Edge} {g : Option (Nat × Bool)}
variable {α : Type} {enc : α → List Value} {size : Nat} {e : TypeId} {a b : Option Addr} {ts us : List α} {hs : Heap}
theorem slT_cells {w : World} (hus : SlT enc size b us hs) (hr : ∀ x, x ∈ hs → w.heap[x.1]? = some x.2) {bb off : Nat} (hb : b = some ⟨bb, off, none⟩) : ∀ j u, (us.flatMap enc)[j]? = some u → w.cell? ((⟨bb, off, none⟩ : Addr).add j) = some u := fun j u hj => by
  have hsz : 0 < size := by
    rcases Nat.eq_zero_or_pos size with h0 | h0
    · have hl0 := flat_len hus.len us
      rw [h0, Nat.mul_zero] at hl0
      rw [List.eq_nil_of_length_eq_zero hl0] at hj
      simp at hj
    · exact h0
  have hjl : j < us.length * size := by rw [← flat_len hus.len]; exact (List.getElem?_eq_some_iff.1 hj).1
  have hi : j / size < us.length := Nat.div_lt_of_lt_mul (by rw [Nat.mul_comm]; exact hjl)
  obtain ⟨b2', off2, cs, e2, fr2, e1, hm2, hf2, hc2⟩ := hus.at_ (j / size) hi
  rw [hb] at e1
  simp only [Option.some.injEq, Addr.mk.injEq, and_true] at e1
  obtain ⟨rfl, rfl⟩ := e1
  have hadd : (⟨bb, off, none⟩ : Addr).add j = ⟨bb, off + j, none⟩ := by unfold Addr.add; split <;> simp_all
  have hbk := hr _ hm2
  rw [hadd, cell_of_row w bb (off + j) _ e2 fr2 hbk]
  have hfa := flat_at hus.len us (j / size) hi
  have hmod : j / size * size + j % size = j := by rw [Nat.mul_comm]; exact Nat.div_add_mod j size
  have hml := Nat.mod_lt j hsz
  have e3 : ((us.flatMap enc).drop (j / size * size) |>.take size)[j % size]? = some u := by
    rw [List.getElem?_take, if_pos hml, List.getElem?_drop, hmod, hj]
  rw [hfa, ← hc2, List.getElem?_take, if_pos hml, List.getElem?_drop] at e3
  rw [show off + j = off + j / size * size + j % size by omega]
  simpa using e3
/-- append(x, y...) where x is full: a new block, the old one stays -/
theorem apG {t : TypeId} {x y : Operand} {len m c : Nat} {kx ky : Heap} {s1 b1 b2 : Nat} {z1 : Option Value} {z : Value} {zc : List Value} {de : TypeDesc} (hΓ : Fits P Γ) (hts : SlT enc size a ts kx) (hus : SlT enc size b us ky) (hrx : RdH R L kx) (hry : RdH R L ky)
    (k : ∀ a' cap' h', OwT enc size e a' cap' (ts ++ us) h' → J P n w0 R l0 K rest (upd f d (.slice a' (len + m) cap')) (h' :: L))
    (hg : wantB n f l0 ⟨some d, .call ⟨.builtin .append, ⟨[x, y]⟩, ⟨[t, t]⟩⟩, ty, pos, aft, g⟩ = true := by exact rfl)
    (hx : Cx.ev n f x = .slice a len len := by exact rfl) (hy : Cx.ev n f y = .slice b m c := by exact rfl) (ht : Go.Cx.look Γ t = some ⟨.slice e, s1, z1, b1⟩ := by exact rfl) (he : Go.Cx.look Γ e = some ⟨de, size, some z, b2⟩ := by exact rfl) (hz : vcells z = some zc := by exact rfl) (hzl : Nat.beq zc.length size = true := by exact rfl)
    (hlen : ts.length = len := by first | rfl | assumption | omega) (hm : us.length = m := by first | rfl | assumption | omega) (hl0 : 0 < len := by omega) (hm0 : 0 < m := by omega) (hb : (len + m) * b2 ≤ 140737488355328 := by omega) (h63 : len + m ≤ 9223372036854775807 := by omega) :
    J P n w0 R l0 K ((2, ⟨some d, .call ⟨.builtin .append, ⟨[x, y]⟩, ⟨[t, t]⟩⟩, ty, pos, aft, g⟩) :: rest) f L := by
  subst hlen hm
  refine J.v (Φ := fun v L' => ∃ a' cap' h', v = .slice a' (ts.length + us.length) cap' ∧ L' = h' :: L ∧ OwT enc size e a' cap' (ts ++ us) h') hg (fun w hw => ?_) (fun v L' ⟨a', cap', h', e1, e2, e3⟩ => by subst e1; subst e2; exact k a' cap' h' e3)
  obtain ⟨bx, ox, _, _, _, rfl, _, _, _⟩ := hts.at_ 0 hl0
  obtain ⟨by', oy, _, _, _, rfl, _, _, _⟩ := hus.at_ 0 hm0
  have hu := (hΓ t _ ht).1
  obtain ⟨hue, ie, hie, hse, hze, hbe⟩ := hΓ e _ he
  have hsz : ie.size = size := hse
  have hzs : z.cells.size = size := by rw [vcells_eq hz]; simpa using Nat.eq_of_beq_eq_true hzl
  have hlt : ts.length < ts.length + us.length := by omega
  have hfit : Builtin.nextslicecap (ts.length + us.length) ts.length * ie.bytes ≤ 281474976710656 := by
    rw [hbe]
    exact growslice_fits hlt hb
  have hrun := run_append_grow (P := P) w t ty e ie z hu hie hze ⟨bx, ox, none⟩ ts.length ts.length (ts.flatMap enc) (by rw [flat_len hts.len, hsz]) (slT_cells hts (fun x h => hw.rd (hrx x h)) rfl) ⟨by', oy, none⟩ us.length c (us.flatMap enc) (by rw [flat_len hus.len, hsz]) (slT_cells hus (fun x h => hw.rd (hry x h)) rfl) hlt (by omega) hfit
  have hge := grownCap_ge w (ts.length + us.length) ts.length e
  have hex : (execOp (Cx.ev n f) ⟨some d, .call ⟨.builtin .append, ⟨[x, y]⟩, ⟨[t, t]⟩⟩, ty, pos, aft, g⟩).run P w = .ok (.value (.slice (some ⟨w.heap.size, 0, none⟩) (ts.length + us.length) (grownCap w (ts.length + us.length) ts.length e))) (w.drew.alloc (.cells ((ts.flatMap enc).toArray ++ (us.flatMap enc).toArray ++ Builtin.zeroCells z.cells (grownCap w (ts.length + us.length) ts.length e - (ts.length + us.length))) e)) := by
    have h2 : (⟨[x, y]⟩ : Array Operand).map (Cx.ev n f) = #[.slice (some ⟨bx, ox, none⟩) ts.length ts.length, .slice (some ⟨by', oy, none⟩) us.length c] := by simp [hx, hy]
    simp only [execOp, resolve, h2, Sem.run_bind, Sem.run_pure, Result.andThen_ok, invoke, builtin]
    rw [hrun]
    rfl
  refine ⟨_, _, _, hex, (hw.drew (w.drawn + 1)).alloc _, _, _, _, rfl, rfl, hts.len, .inr ⟨w.heap.size, ts.flatMap enc ++ us.flatMap enc ++ (Builtin.zeroCells z.cells (grownCap w (ts.length + us.length) ts.length e - (ts.length + us.length))).toList, rfl, ?_, ?_, ?_, ?_⟩⟩
  · simp
  · simp only [List.length_append, Array.length_toList, size_zeroCells, hzs, flat_len hts.len]
    rw [← Nat.add_mul, ← Nat.add_mul]
    congr 1
    omega
  · simpa using hge
  · rw [List.flatMap_append, List.take_append_of_le_length (by rw [List.length_append, List.length_append, flat_len hts.len, flat_len hts.len, Nat.add_mul]; exact Nat.le_refl _)]
    rw [List.take_of_length_le (by rw [List.length_append, List.length_append, flat_len hts.len, flat_len hts.len, Nat.add_mul]; exact Nat.le_refl _)]
end
end Go.Proofs.Ytinpcimogojefaa
