/-
  The layer's rules for strings: a string is a list of bytes.
-/
import Derived.Test.YthnhijdfcmcnhaaCxK
import Derived.Laws.StructEq
namespace Go.Cx
open Go Go.RowKit
set_option linter.unusedVariables false
set_option linter.unusedSimpArgs false

theorem toNat0 : (0 : Int).toNat = 0 := rfl
theorem toNat1 : (1 : Int).toNat = 1 := rfl
/-- the string of these bytes -/
def S (l : List UInt8) : ByteArray := ⟨⟨l⟩⟩
theorem S_size (l : List UInt8) : (S l).size = l.length := rfl
theorem S_append (a b : List UInt8) : S a ++ S b = S (a ++ b) := ByteArray.ext (Array.ext' (by simp [S]))
theorem S_extract (l : List UInt8) (i j : Nat) : (S l).extract i j = S ((l.drop i).take (j - i)) := ByteArray.ext (Array.ext' (by simp [S, List.extract_eq_take_drop]))
theorem S_toList (l : List UInt8) : (S l).toList = l := by
  rw [ByteArray.toList_eq]; rfl
theorem S_get (l : List UInt8) (i : Nat) (h : i < l.length) : (S l)[i]? = some (l.getD i 0) := by
  have hb : i < (S l).size := h
  have : (S l)[i]? = some (S l)[i] := by simp [hb]
  rw [this]
  congr 1
  rw [List.getD_eq_getElem?_getD, List.getElem?_eq_getElem h]
  rfl

/-- whether two structs of numbers and truths are equal -/
def eqF (Γ : List (Nat × TI)) : List Field → List Value → List Value → Option Bool
  | [], _, _ => some true
  | f :: fs, xs, ys =>
    match partEv Γ f.type xs f.offset, partEv Γ f.type ys f.offset, look Γ f.type with
    | some (.int k a), some (.int k' b), some ⟨.int _, _, _, _⟩ => bif sameK k k' then (eqF Γ fs xs ys).map (fun r => (a == b) && r) else none
    | some (.bool a), some (.bool b), some ⟨.bool, _, _, _⟩ => (eqF Γ fs xs ys).map (fun r => (a == b) && r)
    | _, _, _ => none
theorem eqF_ok {P : Program} {Γ : List (Nat × TI)} (hΓ : Fits P Γ) (d : Nat) (xs ys : List Value) : ∀ (fs : List Field) (r : Bool), (∀ f, f ∈ fs → f.name ≠ "_") → eqF Γ fs xs ys = some r → ∀ w, (Op.eqFields (d + 1) ⟨xs⟩ ⟨ys⟩ fs).run P w = .ok r w
  | [], r, _, h, w => by simp only [eqF, Option.some.injEq] at h; subst h; rfl
  | f :: fs, r, hn, h, w => by
    have ih := eqF_ok hΓ d xs ys fs
    have hn' : ∀ f, f ∈ fs → f.name ≠ "_" := fun g hg => hn g (List.mem_cons_of_mem _ hg)
    unfold eqF at h
    unfold Op.eqFields
    rw [if_pos (hn f (List.mem_cons_self ..))]
    split at h
    case h_1 k a k' b k2 s z b2 h1 h2 h3 =>
      cases hk : sameK k k' with
      | false => rw [hk] at h; cases h
      | true =>
        rw [hk] at h
        have hkk := sameK_eq hk
        subst hkk
        cases hr : eqF Γ fs xs ys with
        | none => rw [hr] at h; cases h
        | some r' =>
          rw [hr] at h
          simp only [cond_true, Option.map_some, Option.some.injEq] at h
          subst h
          simp only [Sem.run_bind, partEv_ok hΓ h1, partEv_ok hΓ h2, Result.andThen_ok, run_equalIn_int w d f.type k k2 a b (hΓ _ _ h3).1]
          cases hab : (a == b) with
          | true => simp only [Bool.not_true, Bool.false_eq_true, if_false, Bool.true_and]; exact ih r' hn' hr w
          | false => rfl
    case h_2 a b s z b2 h1 h2 h3 =>
      cases hr : eqF Γ fs xs ys with
      | none => rw [hr] at h; cases h
      | some r' =>
        rw [hr] at h
        simp only [Option.map_some, Option.some.injEq] at h
        subst h
        simp only [Sem.run_bind, partEv_ok hΓ h1, partEv_ok hΓ h2, Result.andThen_ok, run_equalIn_bool' w d f.type a b (hΓ _ _ h3).1]
        cases hab : (a == b) with
        | true => simp only [Bool.not_true, Bool.false_eq_true, if_false, Bool.true_and]; exact ih r' hn' hr w
        | false => rfl
    all_goals cases h

section
variable {P : Program} {n : Nat} {w0 : World} {R : Heap} {l0 : List Oper} {K : Exit → Fr → List Heap → Prop} {f : Fr} {L : List Heap} {rest : List (Nat × Oper)} {κ : Nat}
variable {Γ : List (Nat × TI)} {d : Nat} {op : Op} {ty : TypeId} {pos : String} {aft : Array Edge} {g : Option (Nat × Bool)} {t u : TypeId} {x y : Operand} {a b : List UInt8}

theorem strs_run {bo : BinOp} {v : Value} {dst : Option Tmp} (hx : Cx.ev n f x = .string (S a)) (hy : Cx.ev n f y = .string (S b)) (h : ∀ w, (Op.stringOp bo (S a) (S b)).run P w = .ok v w) (hb : bo = .add ∨ bo = .eql ∨ bo = .neq) (w : World) :
    (execOp (Cx.ev n f) ⟨dst, .binOp bo t x y u, ty, pos, aft, g⟩).run P w = .ok (.value v) w := by
  simp only [execOp, hx, hy]
  have : (eqGuard bo t x y (.string (S a)) (.string (S b))).run P w = .ok () w := by rcases hb with rfl | rfl | rfl <;> rfl
  have h2 : (binOp bo t (.string (S a)) (.string (S b))).run P w = .ok v w := by rcases hb with rfl | rfl | rfl <;> simpa [binOp] using h w
  simp only [Sem.run_bind]
  rw [this]
  simp only [Result.andThen_ok]
  rw [h2]
  rfl
theorem J.cat (hg : wantB n f l0 ⟨some d, .binOp .add t x y u, ty, pos, aft, g⟩ = true) (hx : Cx.ev n f x = .string (S a)) (hy : Cx.ev n f y = .string (S b)) (h : a.length + b.length ≤ 9223372036854775807)
    (k : J P n w0 R l0 K rest (upd f d (.string (S (a ++ b)))) L) : J P n w0 R l0 K ((κ, ⟨some d, .binOp .add t x y u, ty, pos, aft, g⟩) :: rest) f L :=
  J.p hg (strs_run hx hy (fun w => by
    unfold Op.stringOp
    simp only
    rw [if_neg (by rw [S_size, S_size]; show ¬ (9223372036854775807 : Int) < _; omega), S_append]
    rfl) (.inl rfl)) k
theorem J.eqS (hg : wantB n f l0 ⟨some d, .binOp .eql t x y u, ty, pos, aft, g⟩ = true) (hx : Cx.ev n f x = .string (S a)) (hy : Cx.ev n f y = .string (S b))
    (k : J P n w0 R l0 K rest (upd f d (.bool (a == b))) L) : J P n w0 R l0 K ((κ, ⟨some d, .binOp .eql t x y u, ty, pos, aft, g⟩) :: rest) f L :=
  J.p hg (strs_run hx hy (fun w => by
    unfold Op.stringOp
    simp only [S_toList]
    rfl) (.inr (.inl rfl))) k
theorem J.neS (hg : wantB n f l0 ⟨some d, .binOp .neq t x y u, ty, pos, aft, g⟩ = true) (hx : Cx.ev n f x = .string (S a)) (hy : Cx.ev n f y = .string (S b))
    (k : J P n w0 R l0 K rest (upd f d (.bool (!(a == b)))) L) : J P n w0 R l0 K ((κ, ⟨some d, .binOp .neq t x y u, ty, pos, aft, g⟩) :: rest) f L :=
  J.p hg (strs_run hx hy (fun w => by
    unfold Op.stringOp
    simp only [S_toList]
    rfl) (.inr (.inr rfl))) k
theorem J.lenS (hΓ : Fits P Γ) (hg : wantB n f l0 ⟨some d, .call ⟨.builtin .len, ⟨[x]⟩, ⟨[t]⟩⟩, ty, pos, aft, g⟩ = true) (hx : Cx.ev n f x = .string (S a)) (h : pureEv Γ (Cx.ev n f) (.call ⟨.builtin .len, ⟨[x]⟩, ⟨[t]⟩⟩) = some (.int .i64 ((S a).size : Int)))
    (k : J P n w0 R l0 K rest (upd f d (.int .i64 (a.length : Int))) L) : J P n w0 R l0 K ((κ, ⟨some d, .call ⟨.builtin .len, ⟨[x]⟩, ⟨[t]⟩⟩, ty, pos, aft, g⟩) :: rest) f L :=
  J.ev hΓ hg h k
theorem J.ixS {ki : IntKind} {i : Int} {j : Nat} {s1 b1 : Nat} {z1 : Option Value} (hΓ : Fits P Γ) (hg : wantB n f l0 ⟨some d, .index t x y, ty, pos, aft, g⟩ = true) (hx : Cx.ev n f x = .string (S a)) (hy : Cx.ev n f y = .int ki i) (ht : look Γ t = some ⟨.string, s1, z1, b1⟩) (h0 : 0 ≤ i) (h1 : i < (a.length : Int)) (hj : i.toNat = j)
    (k : J P n w0 R l0 K rest (upd f d (.int .u8 ((a.getD j 0).toNat : Int))) L) : J P n w0 R l0 K ((κ, ⟨some d, .index t x y, ty, pos, aft, g⟩) :: rest) f L :=
  J.p hg (fun w => by
    subst hj
    have hu := (hΓ t _ ht).1
    have : (Instr.index t (.string (S a)) (.int ki i)).run P w = .ok (.int .u8 ((a.getD i.toNat 0).toNat : Int)) w := by
      unfold Instr.index
      simp only [asIntOf, Sem.run_bind, Sem.run_pure, Result.andThen_ok, run_underlying hu]
      rw [if_pos h0, S_get a _ (by omega)]
      rfl
    simp only [execOp, hx, hy, Sem.run_bind]
    rw [this]
    rfl) k
theorem J.slL {ki : IntKind} {i : Int} {j : Nat} {s1 b1 : Nat} {z1 : Option Value} (hΓ : Fits P Γ) (hg : wantB n f l0 ⟨some d, .slice t x (some y) none none, ty, pos, aft, g⟩ = true) (hx : Cx.ev n f x = .string (S a)) (hy : Cx.ev n f y = .int ki i) (ht : look Γ t = some ⟨.string, s1, z1, b1⟩) (h0 : 0 ≤ i) (h1 : i ≤ (a.length : Int)) (hj : i.toNat = j)
    (k : J P n w0 R l0 K rest (upd f d (.string (S (a.drop j)))) L) : J P n w0 R l0 K ((κ, ⟨some d, .slice t x (some y) none none, ty, pos, aft, g⟩) :: rest) f L :=
  J.p hg (fun w => by
    subst hj
    have hu := (hΓ t _ ht).1
    have : (Instr.sliceAt t (.string (S a)) (some (.int ki i)) none none).run P w = .ok (.string (S (a.drop i.toNat))) w := by
      rw [run_sliceAt_string w t _ _ _ _ hu]
      unfold Instr.slice Instr.sliceBounds Instr.sliceBound
      simp only [asIntOf, Sem.run_bind, Sem.run_pure, Result.andThen_ok, run_underlying hu]
      simp [S_size, h0, h1, S_extract, go_sem]
      rw [List.take_of_length_le (by simp)]
    simp only [execOp, hx, hy, Sem.run_bind, Option.map_some, Option.map_none]
    rw [this]
    rfl) k
theorem J.slH {ki : IntKind} {i : Int} {j : Nat} {s1 b1 : Nat} {z1 : Option Value} (hΓ : Fits P Γ) (hg : wantB n f l0 ⟨some d, .slice t x none (some y) none, ty, pos, aft, g⟩ = true) (hx : Cx.ev n f x = .string (S a)) (hy : Cx.ev n f y = .int ki i) (ht : look Γ t = some ⟨.string, s1, z1, b1⟩) (h0 : 0 ≤ i) (h1 : i ≤ (a.length : Int)) (hj : i.toNat = j)
    (k : J P n w0 R l0 K rest (upd f d (.string (S (a.take j)))) L) : J P n w0 R l0 K ((κ, ⟨some d, .slice t x none (some y) none, ty, pos, aft, g⟩) :: rest) f L :=
  J.p hg (fun w => by
    subst hj
    have hu := (hΓ t _ ht).1
    have : (Instr.sliceAt t (.string (S a)) none (some (.int ki i)) none).run P w = .ok (.string (S (a.take i.toNat))) w := by
      rw [run_sliceAt_string w t _ _ _ _ hu]
      unfold Instr.slice Instr.sliceBounds Instr.sliceBound
      simp only [asIntOf, Sem.run_bind, Sem.run_pure, Result.andThen_ok, run_underlying hu]
      simp [S_size, h0, h1, S_extract, go_sem]
    simp only [execOp, hx, hy, Sem.run_bind, Option.map_some, Option.map_none]
    rw [this]
    rfl) k
theorem J.mkf {fn : Fn} {as cs : List Operand} (hΓ : Fits P Γ) (hg : wantB n f l0 ⟨some d, .makeFunc fn ⟨as⟩ ⟨cs⟩, ty, pos, aft, g⟩ = true)
    (k : J P n w0 R l0 K rest (upd f d (.func fn ⟨as.map (Cx.ev n f)⟩ ⟨cs.map (Cx.ev n f)⟩)) L) : J P n w0 R l0 K ((κ, ⟨some d, .makeFunc fn ⟨as⟩ ⟨cs⟩, ty, pos, aft, g⟩) :: rest) f L :=
  J.ev hΓ hg (by simp [pureEv]) k
theorem J.neqT {xs ys : List Value} {fs : List Field} {s1 b1 : Nat} {z1 : Option Value} {r : Bool} (hΓ : Fits P Γ) (hg : wantB n f l0 ⟨some d, .binOp .neq t x y u, ty, pos, aft, g⟩ = true) (hx : Cx.ev n f x = .agg ⟨xs⟩) (hy : Cx.ev n f y = .agg ⟨ys⟩) (ht : look Γ t = some ⟨.struct ⟨fs⟩, s1, z1, b1⟩)
    (h1 : P.eqGuardType P.depth t = false) (h2 : P.stoodInHeld t = false) (h3 : (fs.all fun f => f.name != "_") = true) (hr : eqF Γ fs xs ys = some r)
    (k : J P n w0 R l0 K rest (upd f d (.bool (!r))) L) : J P n w0 R l0 K ((κ, ⟨some d, .binOp .neq t x y u, ty, pos, aft, g⟩) :: rest) f L :=
  J.p hg (fun w => by
    have hu := (hΓ t _ ht).1
    have hfs : P.fieldsOf t = ⟨fs⟩ := by unfold Program.fieldsOf; rw [hu]
    have hn : ∀ f, f ∈ fs → f.name ≠ "_" := fun f hf => by simpa using List.all_eq_true.1 h3 f hf
    simp only [execOp, hx, hy, Sem.run_bind]
    rw [run_eqGuard_agg w .neq t x y _ _ h1]
    simp only [Result.andThen_ok]
    rw [run_neq_struct, run_equalIn_agg w 9999 t _ _ (by rw [hu, hfs]) h2, hfs, eqF_ok hΓ 9998 xs ys fs r hn hr]
    rfl) k
end
section
variable {P : Program} {n : Nat} {w0 : World} {R : Heap} {l0 : List Oper} {K : Exit → Fr → List Heap → Prop} {f : Fr} {L : List Heap} {rest : List (Nat × Oper)} {κ : Nat}
variable {Γ : List (Nat × TI)} {d : Nat} {op : Op} {ty : TypeId} {pos : String} {aft : Array Edge} {g : Option (Nat × Bool)}
variable {α : Type} {enc : α → List Value} {size : Nat} {e : TypeId} {a : Option Addr} {cap : Nat} {ts : List α} {h : Heap}
/-- .. and another block stands between them. -/
theorem J.app1b {a1 : Heap} {t : TypeId} {x y : Operand} {len m c gx : Nat} {cl : List Value} {fr : Nat × Nat} {e' s1 b1 b2 : Nat} {z1 : Option Value} {z : Value} {zc : List Value} {de : TypeDesc} (us : List α) (hΓ : Fits P Γ) (hg : wantB n f l0 ⟨some d, .call ⟨.builtin .append, ⟨[x, y]⟩, ⟨[t, t]⟩⟩, ty, pos, aft, g⟩ = true)
    (hx : Cx.ev n f x = .slice a len cap) (hy : Cx.ev n f y = .slice (some ⟨gx, 0, none⟩) m c) (ht : look Γ t = some ⟨.slice e, s1, z1, b1⟩) (he : look Γ e = some ⟨de, size, some z, b2⟩) (hz : vcells z = some zc) (hzl : Nat.beq zc.length size = true)
    (ho : OwT enc size e a cap ts h) (hlen : ts.length = len) (hus : us.flatMap enc = cl) (hm : us.length = m) (h1 : ones cl = true) (hpos : 0 < m) (hb : (len + m) * b2 ≤ 140737488355328) (h63 : len + m ≤ 9223372036854775807)
    (k : ∀ a' cap' h', OwT enc size e a' cap' (ts ++ us) h' → J P n w0 R l0 K rest (upd f d (.slice a' (ts ++ us).length cap')) (a1 :: h' :: L)) :
    J P n w0 R l0 K ((2, ⟨some d, .call ⟨.builtin .append, ⟨[x, y]⟩, ⟨[t, t]⟩⟩, ty, pos, aft, g⟩) :: rest) f ([(gx, .cells ⟨cl⟩ e' fr)] :: a1 :: h :: L) := by
  have hll : (ts ++ us).length = len + m := by rw [List.length_append, hlen, hm]
  rw [hll] at k
  exact J.perm ((List.Perm.swap _ _ _).cons _) (J.app1 us hΓ hg hx hy ht he hz hzl ho hlen hus hm h1 hpos hb h63 (fun a' cap' h' o' => J.perm (.swap _ _ _) (k a' cap' h' o')))
end
end Go.Cx
