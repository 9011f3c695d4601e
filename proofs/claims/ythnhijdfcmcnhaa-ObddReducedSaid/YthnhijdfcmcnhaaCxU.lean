/-
  The layer's rules for bytes: append of a string, a string of bytes, the front of a slice.
-/
import Derived.Test.YthnhijdfcmcnhaaCxS
import Derived.Lib.AppendStr
import Derived.Laws.BytesArg
import Derived.Laws.Slices
namespace Go.Cx
open Go Go.RowKit Go.Lib
set_option linter.unusedVariables false
set_option linter.unusedSimpArgs false

def encB (c : UInt8) : List Value := [.int .u8 (c.toNat : Int)]
theorem encB_flat (l : List UInt8) : l.flatMap encB = l.map (fun c => Value.int .u8 (c.toNat : Int)) := by
  induction l with
  | nil => rfl
  | cons c l ih => rw [List.flatMap_cons, ih]; rfl
theorem strCells_S (l : List UInt8) : strCells (S l) = l.flatMap encB := by
  rw [encB_flat]
  simp [strCells, S]

section
variable {P : Program} {Γ : List (Nat × TI)} {w0 : World} {R : Heap} {L : List Heap}
theorem appStr_run (hΓ : Fits P Γ) {t u ty' e : TypeId} {s1 b1 s3 b3 cap : Nat} {z1 z3 : Option Value} {a : Option Addr} {bs : List UInt8} {h : Heap} {l : List UInt8} (ht : look Γ t = some ⟨.slice e, s1, z1, b1⟩) (he : look Γ e = some ⟨.int .u8, 1, some (.int .u8 0), 1⟩) (hu : look Γ u = some ⟨.string, s3, z3, b3⟩)
    {w : World} (hw : H w0 R (h :: L) w) (ho : OwT encB 1 e a cap bs h) (hm : 0 < l.length) (hb : bs.length + l.length ≤ 140737488355328) :
    ∃ a' cap' h' w', (Builtin.append_ #[t, u] ty' #[.slice a bs.length cap, .string (S l)]).run P w = .ok (.slice a' (bs.length + l.length) cap') w' ∧ H w0 R (h' :: L) w' ∧ OwT encB 1 e a' cap' (bs ++ l) h' := by
  have htu := (hΓ t _ ht).1
  have huu := (hΓ u _ hu).1
  obtain ⟨hue, ie, hie, hse, hze, hbe⟩ := hΓ e _ he
  have hsz : ie.size = 1 := hse
  have hbz : ie.bytes = 1 := hbe
  have hS : (S l).size = l.length := rfl
  rcases ho.row with ⟨rfl, rfl, rfl, rfl⟩ | ⟨gb, cs, rfl, rfl, hc1, hc2, hc3⟩
  · have hrun := run_append_nil_string (P := P) (w := w) t u ty' e ie (.int .u8 0) htu huu hie hze (S l) hm (by rw [hS]; omega) (by rw [hS, hbz]; omega)
    have hge := grownCap_ge w l.length 0 e
    refine ⟨some ⟨w.heap.size, 0, none⟩, grownCap w l.length 0 e, _, _, ?_, (hw.drop.drew (w.drawn + 1)).alloc (.cells ((S l).data.map (fun b => Value.int .u8 b.toNat) ++ Builtin.zeroCells (Value.int .u8 0).cells (grownCap w l.length 0 e - l.length)) e), ?_⟩
    · simp only [List.length_nil, Nat.zero_add]
      exact hrun
    · refine ⟨ho.len, .inr ⟨w.heap.size, l.flatMap encB ++ (Builtin.zeroCells (Value.int .u8 0).cells (grownCap w l.length 0 e - l.length)).toList, rfl, ?_, ?_, ?_, ?_⟩⟩
      · have : ((S l).data.map (fun b => Value.int .u8 b.toNat) ++ Builtin.zeroCells (Value.int .u8 0).cells (grownCap w l.length 0 e - l.length)) = ⟨l.flatMap encB ++ (Builtin.zeroCells (Value.int .u8 0).cells (grownCap w l.length 0 e - l.length)).toList⟩ := by
          apply Array.ext'
          rw [encB_flat]
          simp [S]
        rw [this]
      · simp only [List.length_append, Array.length_toList, size_zeroCells, flat_len ho.len]
        simp [Value.cells]
        omega
      · simpa using hge
      · simp only [List.nil_append]
        rw [List.take_append_of_le_length (by rw [flat_len ho.len]; exact Nat.le_refl _), List.take_of_length_le (by rw [flat_len ho.len]; exact Nat.le_refl _)]
  · have hg : w.heap[gb]? = some (.cells cs.toArray e (0, 0)) := hw.own (gb, _) (by simp)
    by_cases hroom : bs.length + l.length ≤ cap
    · have hrun := run_append_room_string (P := P) (w := w) t u ty' e ie htu huu hie hsz gb bs.length cap cs.toArray hg (S l) (by rw [hS]; exact hroom) (by rw [hS, List.size_toArray, hc1]; omega)
      rw [hS, strCells_S] at hrun
      refine ⟨_, _, [(gb, .cells ⟨bs.flatMap encB ++ l.flatMap encB ++ cs.drop (bs.length + l.length)⟩ e (0, 0))], _, hrun, ?_, ?_⟩
      · refine hw.write rfl rfl rfl (by simp) ?_ (fun k hk => setRow_other _ _ _ _ hk)
        rw [setRow_heap w gb _ _ e _ hg]
        have : cs.toArray.toList.take bs.length = bs.flatMap encB := by rw [← hc3, Nat.mul_one]
        rw [this]
      · refine ⟨ho.len, .inr ⟨gb, _, rfl, rfl, ?_, ?_, ?_⟩⟩
        · simp only [List.length_append, List.length_drop, flat_len ho.len, hc1]
          omega
        · simpa using hroom
        · rw [List.flatMap_append, List.take_append_of_le_length (by rw [List.length_append, List.length_append, flat_len ho.len, flat_len ho.len, Nat.add_mul]; exact Nat.le_refl _)]
          rw [List.take_of_length_le (by rw [List.length_append, List.length_append, flat_len ho.len, flat_len ho.len, Nat.add_mul]; exact Nat.le_refl _)]
    · have hlt : cap < bs.length + l.length := by omega
      have hadd : ∀ j, (⟨gb, 0, none⟩ : Addr).add j = ⟨gb, j, none⟩ := fun j => by unfold Addr.add; split <;> simp_all
      have hfit : Builtin.nextslicecap (bs.length + (S l).size) cap * ie.bytes ≤ 281474976710656 := by
        have h2 := nextslicecap_le hlt
        rw [hS, hbz, Nat.mul_one]
        omega
      have hrun := run_append_grow_string (P := P) (w := w) t u ty' e ie (.int .u8 0) htu huu hie hze ⟨gb, 0, none⟩ bs.length cap (bs.flatMap encB) (by rw [flat_len ho.len, hsz]) (fun j v hj => by
          rw [hadd, cell_of_row w gb j cs.toArray e (0, 0) hg]
          rw [← hc3, List.getElem?_take] at hj
          split at hj
          · simpa using hj
          · cases hj) (S l) (by rw [hS]; exact hlt) (by rw [hS]; omega) hfit
      rw [hS, strCells_S] at hrun
      have hge := grownCap_ge w (bs.length + l.length) cap e
      refine ⟨_, _, _, _, hrun, (hw.drop.drew (w.drawn + 1)).alloc _, ?_⟩
      refine ⟨ho.len, .inr ⟨w.heap.size, bs.flatMap encB ++ l.flatMap encB ++ (Builtin.zeroCells (Value.int .u8 0).cells (grownCap w (bs.length + l.length) cap e - (bs.length + l.length))).toList, rfl, ?_, ?_, ?_, ?_⟩⟩
      · simp
      · simp only [List.length_append, Array.length_toList, size_zeroCells, flat_len ho.len]
        simp [Value.cells]
        omega
      · simpa using hge
      · rw [List.flatMap_append, List.take_append_of_le_length (by rw [List.length_append, List.length_append, flat_len ho.len, flat_len ho.len, Nat.add_mul]; exact Nat.le_refl _)]
        rw [List.take_of_length_le (by rw [List.length_append, List.length_append, flat_len ho.len, flat_len ho.len, Nat.add_mul]; exact Nat.le_refl _)]
end

section
variable {P : Program} {n : Nat} {w0 : World} {R : Heap} {l0 : List Oper} {K : Exit → Fr → List Heap → Prop} {f : Fr} {L : List Heap} {rest : List (Nat × Oper)} {κ : Nat}
variable {Γ : List (Nat × TI)} {d : Nat} {op : Op} {ty : TypeId} {pos : String} {aft : Array Edge} {g : Option (Nat × Bool)} {t u e : TypeId} {x y z : Operand} {bs l : List UInt8} {a : Option Addr} {len cap : Nat} {h : Heap}
/-- append(b, s...), s a string -/
theorem J.apS {s1 b1 s3 b3 : Nat} {z1 z3 : Option Value} (hΓ : Fits P Γ)
    (k : ∀ a' cap' h', OwT encB 1 e a' cap' (bs ++ l) h' → J P n w0 R l0 K rest (upd f d (.slice a' (bs ++ l).length cap')) (h' :: L))
    (hg : wantB n f l0 ⟨some d, .call ⟨.builtin .append, ⟨[x, y]⟩, ⟨[t, u]⟩⟩, ty, pos, aft, g⟩ = true := by exact rfl) (hx : Cx.ev n f x = .slice a len cap := by exact rfl) (hy : Cx.ev n f y = .string (S l) := by exact rfl)
    (ht : look Γ t = some ⟨.slice e, s1, z1, b1⟩ := by exact rfl) (he : look Γ e = some ⟨.int .u8, 1, some (.int .u8 0), 1⟩ := by exact rfl) (hu : look Γ u = some ⟨.string, s3, z3, b3⟩ := by exact rfl)
    (ho : OwT encB 1 e a cap bs h := by assumption) (hlen : bs.length = len := by first | rfl | assumption | omega) (hm : 0 < l.length := by first | omega | exact Nat.lt_of_lt_of_le (by decide) (Nat.le_refl _)) (hb : bs.length + l.length ≤ 140737488355328 := by first | omega | (simp only [List.length_append, List.length_cons, List.length_nil]; omega)) :
    J P n w0 R l0 K ((2, ⟨some d, .call ⟨.builtin .append, ⟨[x, y]⟩, ⟨[t, u]⟩⟩, ty, pos, aft, g⟩) :: rest) f (h :: L) := by
  subst hlen
  have hll : (bs ++ l).length = bs.length + l.length := List.length_append
  rw [hll] at k
  refine J.v (Φ := fun v L' => ∃ a' cap' h', v = .slice a' (bs.length + l.length) cap' ∧ L' = h' :: L ∧ OwT encB 1 e a' cap' (bs ++ l) h') hg (fun w hw => ?_) (fun v L' ⟨a', cap', h', h1, h2, h3⟩ => by subst h1; subst h2; exact k a' cap' h' h3)
  obtain ⟨a', cap', h', w', hr, hw', ho'⟩ := appStr_run (P := P) (ty' := ty) hΓ ht he hu hw ho hm hb
  refine ⟨_, _, w', ?_, hw', a', cap', h', rfl, rfl, ho'⟩
  simp only [execOp, resolve, invoke, builtin, List.map_toArray, List.map_cons, List.map_nil, hx, hy, Sem.run_bind, Sem.run_pure, Result.andThen_ok]
  rw [hr]
  rfl
/-- string(b) -/
theorem J.cvS {s1 b1 s3 b3 : Nat} {z1 z3 : Option Value} (hΓ : Fits P Γ)
    (k : J P n w0 R l0 K rest (upd f d (.string (S bs))) L)
    (hg : wantB n f l0 ⟨some d, .convert t u x, ty, pos, aft, g⟩ = true := by exact rfl) (hx : Cx.ev n f x = .slice a len cap := by exact rfl)
    (ht : look Γ t = some ⟨.slice e, s1, z1, b1⟩ := by exact rfl) (he : look Γ e = some ⟨.int .u8, 1, some (.int .u8 0), 1⟩ := by exact rfl) (hu : look Γ u = some ⟨.string, s3, z3, b3⟩ := by exact rfl)
    (hs : SlT encB 1 a bs h := by first | assumption | exact OwT.sl (by assumption)) (hr : RdH R L h := by first | exact RdH.hd | exact RdH.hd.tl | exact RdH.hd.tl.tl | exact RdH.hd.tl.tl.tl) (hlen : bs.length = len := by first | rfl | assumption | omega) :
    J P n w0 R l0 K ((κ + 1, ⟨some d, .convert t u x, ty, pos, aft, g⟩) :: rest) f L := by
  subst hlen
  refine J.q hg (fun w hw => ?_) k
  have htu := (hΓ t _ ht).1
  have huu := (hΓ u _ hu).1
  have heu := (hΓ e _ he).1
  have hH := hw.rdH hr
  have hcv : (convert t u (.slice a bs.length cap)).run P w = .ok (.string (S bs)) w := by
    cases a with
    | none =>
      have hb : bs = [] := by
        cases bs with
        | nil => rfl
        | cons c cs => obtain ⟨b, off, cs', e', fr, h1, _⟩ := hs.at_ 0 (by simp); cases h1
      subst hb
      exact run_convert_bytes_nil (P := P) w t e htu heu 0 cap u huu
    | some ad =>
      by_cases hb : bs = []
      · subst hb
        obtain ⟨b, off, sp⟩ := ad
        rw [run_convert_bytes_string w t u e _ _ cap htu heu huu]
        have hl : (loadCells (⟨b, off, sp⟩ : Addr) 0).run P w = .ok (([] : List Int).map (Value.int .u8)).toArray w := by
          have := run_loadCells_list (P := P) w (⟨b, off, sp⟩ : Addr) [] (fun j v hj => by simp at hj)
          simpa using this
        exact run_bytesToString w _ 0 cap [] hl
      · have hpos : 0 < bs.length := List.length_pos_iff.2 hb
        obtain ⟨b, off, cs0, e0, fr0, h1, h2, h3, h4⟩ := hs.at_ 0 hpos
        obtain rfl := Option.some.inj h1
        have hcell : ∀ i, i < bs.length → w.cell? ⟨b, off + i, none⟩ = some (.int .u8 ((bs.map fun c => (c.toNat : Int)).getD i 0)) := fun i hi => by
          obtain ⟨b', off', cs', e', fr', k1, k2, k3, k4⟩ := hs.at_ i hi
          simp only [Option.some.injEq, Addr.mk.injEq] at k1
          obtain ⟨rfl, rfl, _⟩ := k1
          have hrow := hH _ k2
          rw [cell_of_row w b (off + i) ⟨cs'⟩ e' fr' hrow]
          have k5 := congrArg (·[0]?) k4
          simp only [List.getElem?_take, List.getElem?_drop, Nat.mul_one, Nat.add_zero] at k5
          rw [List.getD_eq_getElem?_getD, List.getElem?_map, List.getElem?_eq_getElem hi]
          simpa [encB] using k5
        have := run_convert_bytes_arg (P := P) w t e htu heu b off bs.length cap (bs.map fun c => (c.toNat : Int)) (by simp) hcell u huu
        rw [this]
        have hS : strOfNums (bs.map fun c => (c.toNat : Int)) = S bs := by
          unfold strOfNums S
          congr 1
          apply Array.ext'
          simp only [List.map_map]
          have : ((fun n : Int => UInt8.ofNat n.toNat) ∘ fun c : UInt8 => (c.toNat : Int)) = id := funext fun c => by simp
          simp [this]
        rw [hS]
  simp only [execOp, hx, Sem.run_bind]
  rw [hcv]
  rfl
end
section
variable {P : Program} {n : Nat} {w0 : World} {R : Heap} {l0 : List Oper} {K : Exit → Fr → List Heap → Prop} {f : Fr} {L : List Heap} {rest : List (Nat × Oper)} {κ : Nat}
variable {Γ : List (Nat × TI)} {d : Nat} {op : Op} {ty : TypeId} {pos : String} {aft : Array Edge} {g : Option (Nat × Bool)} {t u e : TypeId} {x y z : Operand} {a : Option Addr} {len cap : Nat} {h : Heap}
theorem _root_.Go.Cx.OwT.take {α : Type} {enc : α → List Value} {size : Nat} {ts : List α} (ho : OwT enc size e a cap ts h) (k : Nat) : OwT enc size e a cap (ts.take k) h := by
  refine ⟨ho.len, ?_⟩
  rcases ho.row with ⟨h1, h2, h3, h4⟩ | ⟨gb, cs, h1, h2, h3, h4, h5⟩
  · exact .inl ⟨h1, h2, by rw [h3]; simp, h4⟩
  · refine .inr ⟨gb, cs, h1, h2, h3, by rw [List.length_take]; omega, ?_⟩
    have hf : (ts.take k).flatMap enc = (ts.flatMap enc).take ((ts.take k).length * size) := by
      have e2 : ts.flatMap enc = (ts.take k).flatMap enc ++ (ts.drop k).flatMap enc := by rw [← List.flatMap_append, List.take_append_drop]
      rw [e2, List.take_append_of_le_length (by rw [flat_len ho.len]; exact Nat.le_refl _)]
      exact (List.take_of_length_le (by rw [flat_len ho.len]; exact Nat.le_refl _)).symm
    rw [hf, ← h5, List.take_take]
    congr 1
    have : (ts.take k).length * size ≤ ts.length * size := Nat.mul_le_mul_right _ (by rw [List.length_take]; omega)
    omega
/-- x[:j] of a slice -/
theorem J.slF {ki : IntKind} {j : Int} {m s1 b1 : Nat} {z1 : Option Value} {te : TI} (hΓ : Fits P Γ)
    (k : J P n w0 R l0 K rest (upd f d (.slice a m cap)) L)
    (hg : wantB n f l0 ⟨some d, .slice t x none (some y) none, ty, pos, aft, g⟩ = true := by exact rfl) (hx : Cx.ev n f x = .slice a len cap := by exact rfl) (hy : Cx.ev n f y = .int ki j := by exact rfl) (ht : look Γ t = some ⟨.slice e, s1, z1, b1⟩ := by exact rfl) (hte : look Γ e = some te := by exact rfl) (hm : j = (m : Int) := by omega) (h1 : m ≤ cap := by omega) :
    J P n w0 R l0 K ((κ, ⟨some d, .slice t x none (some y) none, ty, pos, aft, g⟩) :: rest) f L :=
  J.p hg (fun w => by
    subst hm
    have hu : P.underlying t = some (.slice e) := (hΓ t _ ht).1
    have he : P.elem t = e := by unfold Program.elem; rw [hu]
    have hu' : P.underlying t = some (.slice (P.elem t)) := by rw [he]; exact hu
    have : (Instr.sliceAt t (.slice a len cap) none (some (.int ki (m : Int))) none).run P w = .ok (.slice a m cap) w := by
      rw [run_sliceAt_slice w t _ _ _ _ hu', run_slice_h w t a len cap hu' ki (m : Int) (by omega) (by omega), he, sizeOf_run hΓ hte w]
      cases a <;> simp [sliced, Result.andThen, Addr.add]
    simp only [execOp, hx, hy, Sem.run_bind, Option.map_some, Option.map_none]
    rw [this]
    rfl) k
end
end Go.Cx
