/-
  The layer's rules for arithmetic that does not wrap, division, shifts and bits; results that lie in cells.
-/
import Derived.Test.YthnhijdfcmcnhaaCxJ
namespace Go.Cx
open Go Go.RowKit
set_option linter.unusedVariables false
set_option linter.unusedSimpArgs false

section
variable {P : Program} {n : Nat} {w0 : World} {R : Heap} {l0 : List Oper} {K : Exit → Fr → List Heap → Prop} {f : Fr} {L : List Heap} {rest : List (Nat × Oper)} {κ : Nat}
variable {Γ : List (Nat × TI)} {d : Nat} {op : Op} {ty : TypeId} {pos : String} {aft : Array Edge} {g : Option (Nat × Bool)} {t u : TypeId} {x y : Operand} {a b : Int}

theorem bin_run {bo : BinOp} {v : Value} {dst : Option Tmp} {k k' : IntKind} (hx : Cx.ev n f x = .int k a) (hy : Cx.ev n f y = .int k' b) (h : ∀ w, (binOp bo t (.int k a) (.int k' b)).run P w = .ok v w) (w : World) :
    (execOp (Cx.ev n f) ⟨dst, .binOp bo t x y u, ty, pos, aft, g⟩).run P w = .ok (.value v) w := by
  simp only [execOp, hx, hy]
  have : (eqGuard bo t x y (.int k a) (.int k' b)).run P w = .ok () w := by cases bo <;> rfl
  simp only [Sem.run_bind]
  rw [this]
  simp only [Result.andThen_ok]
  rw [h w]
  rfl

/-- which rules an operation goes by -/
def opClass : Op → Nat
  | .binOp .add .. => 1 | .binOp .sub .. => 1 | .binOp .mul .. => 1 | .binOp .quo .. => 1 | .binOp .rem .. => 1 | .binOp .shl .. => 1 | .binOp .shr .. => 1 | .binOp .and .. => 1 | .binOp .or .. => 1 | .binOp .andNot .. => 1 | .unOp .neg .. => 1
  | .convert .. => 2 | .indexAddr .. => 3 | .fieldAddr .. => 3 | .load .. => 4 | .store .. => 5 | .box .. => 6 | .alloc .. => 7 | .build .. => 8
  | .binOp .eql .. => 11 | .binOp .neq .. => 11 | .index .. => 12 | .slice .. => 13
  | .move .. => 0 | .assign .. => 0 | .binOp .. => 0 | .unOp .. => 0 | .pick .. => 0 | .extract .. => 0 | .field .. => 0 | .makeFunc .. => 14 | .nilCheck .. => 0 | .call ⟨.builtin .len, _, _⟩ => 10 | .call ⟨.builtin .min, _, _⟩ => 0 | .call ⟨.builtin .max, _, _⟩ => 0
  | _ => 9
theorem J.only (c : Nat) {dst : Option Tmp} (hn : opClass op = c) (k : J P n w0 R l0 K ((κ, ⟨dst, op, ty, pos, aft, g⟩) :: rest) f L) : J P n w0 R l0 K ((κ, ⟨dst, op, ty, pos, aft, g⟩) :: rest) f L := k
theorem J.isJ {rs : List (Nat × Oper)} (k : J P n w0 R l0 K rs f L) : J P n w0 R l0 K rs f L := k

theorem J.addN (hg : wantB n f l0 ⟨some d, .binOp .add t x y u, ty, pos, aft, g⟩ = true) (hx : Cx.ev n f x = .int .i64 a) (hy : Cx.ev n f y = .int .i64 b) (h : -9223372036854775808 ≤ a + b ∧ a + b ≤ 9223372036854775807)
    (k : J P n w0 R l0 K rest (upd f d (.int .i64 (a + b))) L) : J P n w0 R l0 K ((κ, ⟨some d, .binOp .add t x y u, ty, pos, aft, g⟩) :: rest) f L :=
  J.p hg (bin_run hx hy (fun w => by simp [binOp, Op.intArith, IntWalk.i64_in _ h, go_sem])) k
theorem J.subN (hg : wantB n f l0 ⟨some d, .binOp .sub t x y u, ty, pos, aft, g⟩ = true) (hx : Cx.ev n f x = .int .i64 a) (hy : Cx.ev n f y = .int .i64 b) (h : -9223372036854775808 ≤ a - b ∧ a - b ≤ 9223372036854775807)
    (k : J P n w0 R l0 K rest (upd f d (.int .i64 (a - b))) L) : J P n w0 R l0 K ((κ, ⟨some d, .binOp .sub t x y u, ty, pos, aft, g⟩) :: rest) f L :=
  J.p hg (bin_run hx hy (fun w => by simp [binOp, Op.intArith, IntWalk.i64_in _ h, go_sem])) k
theorem J.mulN (hg : wantB n f l0 ⟨some d, .binOp .mul t x y u, ty, pos, aft, g⟩ = true) (hx : Cx.ev n f x = .int .i64 a) (hy : Cx.ev n f y = .int .i64 b) (h : -9223372036854775808 ≤ a * b ∧ a * b ≤ 9223372036854775807)
    (k : J P n w0 R l0 K rest (upd f d (.int .i64 (a * b))) L) : J P n w0 R l0 K ((κ, ⟨some d, .binOp .mul t x y u, ty, pos, aft, g⟩) :: rest) f L :=
  J.p hg (bin_run hx hy (fun w => by simp [binOp, Op.intArith, IntWalk.i64_in _ h, go_sem])) k
theorem J.negN (hg : wantB n f l0 ⟨some d, .unOp .neg t x, ty, pos, aft, g⟩ = true) (hx : Cx.ev n f x = .int .i64 a) (h : -9223372036854775807 ≤ a ∧ a ≤ 9223372036854775807)
    (k : J P n w0 R l0 K rest (upd f d (.int .i64 (-a))) L) : J P n w0 R l0 K ((κ, ⟨some d, .unOp .neg t x, ty, pos, aft, g⟩) :: rest) f L :=
  J.p hg (fun w => by
    have hwr : IntKind.i64.wrap (-a) = -a := IntWalk.i64_in _ (by omega)
    simp [execOp, hx, Op.unary, Op.intArith, hwr, go_sem]) k
/-- int division, both not negative -/
theorem J.quo (hg : wantB n f l0 ⟨some d, .binOp .quo t x y u, ty, pos, aft, g⟩ = true) (hx : Cx.ev n f x = .int .i64 a) (hy : Cx.ev n f y = .int .i64 b) (h0 : 0 ≤ a) (h1 : a ≤ 9223372036854775807) (h2 : 1 ≤ b)
    (k : J P n w0 R l0 K rest (upd f d (.int .i64 (a / b))) L) : J P n w0 R l0 K ((κ, ⟨some d, .binOp .quo t x y u, ty, pos, aft, g⟩) :: rest) f L :=
  J.p hg (bin_run hx hy (fun w => by
    have := IntWalk.i64_quo a b ⟨h0, h1, h2⟩
    have hb : ¬ b = 0 := by omega
    simp [binOp, Op.intDiv, hb, this, go_sem])) k
theorem J.rem {k1 : IntKind} (hg : wantB n f l0 ⟨some d, .binOp .rem t x y u, ty, pos, aft, g⟩ = true) (hx : Cx.ev n f x = .int k1 a) (hy : Cx.ev n f y = .int k1 b) (h0 : 0 ≤ a) (h2 : 1 ≤ b)
    (k : J P n w0 R l0 K rest (upd f d (.int k1 (a % b))) L) : J P n w0 R l0 K ((κ, ⟨some d, .binOp .rem t x y u, ty, pos, aft, g⟩) :: rest) f L :=
  J.p hg (bin_run hx hy (fun w => by
    have := IntWalk.rem_in a b h0
    have hb : ¬ b = 0 := by omega
    simp [binOp, Op.intDiv, hb, this, go_sem])) k
/-- a conversion that keeps the number -/
theorem J.cvt {src dst : TypeId} {k1 : IntKind} {ts : TI} {s2 b2 : Nat} {z2 : Option Value} (k2 : IntKind) (hΓ : Fits P Γ) (hg : wantB n f l0 ⟨some d, .convert src dst x, ty, pos, aft, g⟩ = true) (hx : Cx.ev n f x = .int k1 a) (hs : look Γ src = some ts) (hd : look Γ dst = some ⟨.int k2, s2, z2, b2⟩) (hk : k2.wrap a = a)
    (k : J P n w0 R l0 K rest (upd f d (.int k2 a)) L) : J P n w0 R l0 K ((κ, ⟨some d, .convert src dst x, ty, pos, aft, g⟩) :: rest) f L := by
  obtain ⟨dd, s3, z3, b3⟩ := ts
  refine J.ev (v := .int k2 a) hΓ hg ?_ k
  simp only [pureEv, hx, hs, hd]
  rw [hk]
theorem wrap_u64 (h : 0 ≤ a ∧ a ≤ 18446744073709551615) : IntKind.u64.wrap a = a := IntWalk.u64_in a h
theorem wrap_i64 (h : -9223372036854775808 ≤ a ∧ a ≤ 9223372036854775807) : IntKind.i64.wrap a = a := IntWalk.i64_in a h
theorem wrap_u8 (h : 0 ≤ a ∧ a ≤ 255) : IntKind.u8.wrap a = a := IntWalk.u8_in a h

/-- 1 << j -/
theorem J.shl1 {yk : IntKind} {j : Int} (hg : wantB n f l0 ⟨some d, .binOp .shl t x y u, ty, pos, aft, g⟩ = true) (hx : Cx.ev n f x = .int .u64 1) (hy : Cx.ev n f y = .int yk j) (h0 : 0 ≤ j) (h1 : j < 64)
    (k : J P n w0 R l0 K rest (upd f d (.int .u64 ((2 ^ j.toNat : Nat) : Int))) L) : J P n w0 R l0 K ((κ, ⟨some d, .binOp .shl t x y u, ty, pos, aft, g⟩) :: rest) f L :=
  J.p hg (bin_run hx hy (fun w => by
    have hj : j.toNat < 64 := by omega
    have hlt : 2 ^ j.toNat < 2 ^ 64 := Nat.pow_lt_pow_right (by omega) hj
    have hm : min j.toNat 64 = j.toNat := by omega
    have hn : ¬ j < 0 := by omega
    have hcast : ((2 : Int) ^ j.toNat) = ((2 ^ j.toNat : Nat) : Int) := by rw [Int.natCast_pow]; rfl
    have hw : IntKind.u64.wrap ((2 : Int) ^ j.toNat) = ((2 ^ j.toNat : Nat) : Int) := by
      rw [hcast, IntWalk.u64_in _ ⟨Int.natCast_nonneg _, by have := Int.ofNat_lt.mpr hlt; have e : ((2 ^ 64 : Nat) : Int) = 18446744073709551616 := rfl; omega⟩]
    simp only [binOp, Op.shift, if_neg hn, IntKind.bits, hm, Int.one_mul, hw]
    rfl)) k
/-- m >> j of an unsigned word -/
theorem J.shrW {yk : IntKind} {j : Int} {m : Nat} (hg : wantB n f l0 ⟨some d, .binOp .shr t x y u, ty, pos, aft, g⟩ = true) (hx : Cx.ev n f x = .int .u64 (m : Int)) (hy : Cx.ev n f y = .int yk j) (h0 : 0 ≤ j) (h1 : j < 64)
    (k : J P n w0 R l0 K rest (upd f d (.int .u64 ((m / 2 ^ j.toNat : Nat) : Int))) L) : J P n w0 R l0 K ((κ, ⟨some d, .binOp .shr t x y u, ty, pos, aft, g⟩) :: rest) f L :=
  J.p hg (bin_run hx hy (fun w => by
    have hm : min j.toNat 64 = j.toNat := by omega
    have hn : ¬ j < 0 := by omega
    have hcast : ((2 : Int) ^ j.toNat) = ((2 ^ j.toNat : Nat) : Int) := by rw [Int.natCast_pow]; rfl
    have hd : ((m : Int)).fdiv ((2 : Int) ^ j.toNat) = ((m / 2 ^ j.toNat : Nat) : Int) := by
      rw [hcast, Int.fdiv_eq_ediv_of_nonneg _ (Int.natCast_nonneg _)]
      rfl
    simp only [binOp, Op.shift, if_neg hn, IntKind.bits, hm, hd]
    rfl)) k

theorem ofInt_nat (m : Nat) : BitVec.ofInt 64 (m : Int) = BitVec.ofNat 64 m := by simp
theorem bits_u64 {bo : BinOp} {m q r : Nat} (h : ∀ w, (Op.intBits bo .u64 (m : Int) (q : Int)).run P w = .ok (.int .u64 (r : Int)) w) (hb : bo = .and ∨ bo = .or ∨ bo = .xor ∨ bo = .andNot) (w : World) : (binOp bo t (.int .u64 (m : Int)) (.int .u64 (q : Int))).run P w = .ok (.int .u64 (r : Int)) w := by
  have := h w
  rcases hb with rfl | rfl | rfl | rfl <;> simpa [binOp] using this
theorem back_u64 {r : Nat} (hr : r < 2 ^ 64) (w : World) : (pure (Value.int .u64 (IntKind.u64.wrap (r : Int))) : Sem Value).run P w = .ok (.int .u64 (r : Int)) w := by
  rw [IntWalk.u64_in _ ⟨Int.natCast_nonneg _, by have := Int.ofNat_lt.mpr hr; have e : ((2 ^ 64 : Nat) : Int) = 18446744073709551616 := rfl; omega⟩]
  rfl
theorem bv_n {m : Nat} (hm : m < 2 ^ 64) : (BitVec.ofInt 64 (m : Int)).toNat = m := by rw [ofInt_nat, BitVec.toNat_ofNat, Nat.mod_eq_of_lt hm]
theorem J.andW {m q : Nat} (hg : wantB n f l0 ⟨some d, .binOp .and t x y u, ty, pos, aft, g⟩ = true) (hx : Cx.ev n f x = .int .u64 (m : Int)) (hy : Cx.ev n f y = .int .u64 (q : Int)) (hm : m < 2 ^ 64) (hq : q < 2 ^ 64)
    (k : J P n w0 R l0 K rest (upd f d (.int .u64 ((m &&& q : Nat) : Int))) L) : J P n w0 R l0 K ((κ, ⟨some d, .binOp .and t x y u, ty, pos, aft, g⟩) :: rest) f L :=
  J.p hg (bin_run hx hy (bits_u64 (fun w => by
    have := back_u64 (P := P) (r := m &&& q) (Nat.and_lt_two_pow m hq) w
    have e : (BitVec.ofInt 64 (m : Int) &&& BitVec.ofInt 64 (q : Int)).toNat = m &&& q := by rw [BitVec.toNat_and, bv_n hm, bv_n hq]
    show (pure (Value.int .u64 (IntKind.u64.wrap ((BitVec.ofInt 64 (m : Int) &&& BitVec.ofInt 64 (q : Int)).toNat : Int))) : Sem Value).run P w = _
    rw [e]
    exact this) (.inl rfl))) k
theorem J.orW {m q : Nat} (hg : wantB n f l0 ⟨some d, .binOp .or t x y u, ty, pos, aft, g⟩ = true) (hx : Cx.ev n f x = .int .u64 (m : Int)) (hy : Cx.ev n f y = .int .u64 (q : Int)) (hm : m < 2 ^ 64) (hq : q < 2 ^ 64)
    (k : J P n w0 R l0 K rest (upd f d (.int .u64 ((m ||| q : Nat) : Int))) L) : J P n w0 R l0 K ((κ, ⟨some d, .binOp .or t x y u, ty, pos, aft, g⟩) :: rest) f L :=
  J.p hg (bin_run hx hy (bits_u64 (fun w => by
    have := back_u64 (P := P) (r := m ||| q) (Nat.or_lt_two_pow hm hq) w
    have e : (BitVec.ofInt 64 (m : Int) ||| BitVec.ofInt 64 (q : Int)).toNat = m ||| q := by rw [BitVec.toNat_or, bv_n hm, bv_n hq]
    show (pure (Value.int .u64 (IntKind.u64.wrap ((BitVec.ofInt 64 (m : Int) ||| BitVec.ofInt 64 (q : Int)).toNat : Int))) : Sem Value).run P w = _
    rw [e]
    exact this) (.inr (.inl rfl)))) k
theorem J.andNotW {m q : Nat} (hg : wantB n f l0 ⟨some d, .binOp .andNot t x y u, ty, pos, aft, g⟩ = true) (hx : Cx.ev n f x = .int .u64 (m : Int)) (hy : Cx.ev n f y = .int .u64 (q : Int)) (hm : m < 2 ^ 64) (hq : q < 2 ^ 64)
    (k : J P n w0 R l0 K rest (upd f d (.int .u64 ((m &&& (2 ^ 64 - 1 - q) : Nat) : Int))) L) : J P n w0 R l0 K ((κ, ⟨some d, .binOp .andNot t x y u, ty, pos, aft, g⟩) :: rest) f L :=
  J.p hg (bin_run hx hy (bits_u64 (fun w => by
    have := back_u64 (P := P) (r := m &&& (2 ^ 64 - 1 - q)) (Nat.and_lt_two_pow m (by omega)) w
    have e : (BitVec.ofInt 64 (m : Int) &&& ~~~ BitVec.ofInt 64 (q : Int)).toNat = m &&& (2 ^ 64 - 1 - q) := by rw [BitVec.toNat_and, BitVec.toNat_not, bv_n hm, bv_n hq]
    show (pure (Value.int .u64 (IntKind.u64.wrap ((BitVec.ofInt 64 (m : Int) &&& ~~~ BitVec.ofInt 64 (q : Int)).toNat : Int))) : Sem Value).run P w = _
    rw [e]
    exact this) (.inr (.inr (.inr rfl))))) k

/-- The address of an array's element, the index known. -/
theorem J.idxA {m : Nat} {e : TypeId} {i : Int} {j : Nat} {ki : IntKind} {bb o : Nat} {s1 s2 b1 b2 : Nat} {z1 z2 : Option Value} {de : TypeDesc} (hΓ : Fits P Γ) (hg : wantB n f l0 ⟨some d, .indexAddr t x y, ty, pos, aft, g⟩ = true) (hx : Cx.ev n f x = .pointer (some ⟨bb, o, none⟩)) (hy : Cx.ev n f y = .int ki i)
    (ht : look Γ t = some ⟨.array m e, s1, z1, b1⟩) (he : look Γ e = some ⟨de, s2, z2, b2⟩) (h0 : 0 ≤ i) (hi : i < (m : Int)) (hj : i.toNat = j)
    (k : J P n w0 R l0 K rest (upd f d (.pointer (some ⟨bb, o + j * s2, none⟩))) L) : J P n w0 R l0 K ((κ, ⟨some d, .indexAddr t x y, ty, pos, aft, g⟩) :: rest) f L :=
  J.p hg (fun w => by
    have hu := (hΓ t _ ht).1
    have hsz := sizeOf_run hΓ he w
    have hadd : (⟨bb, o, none⟩ : Addr).add (j * s2) = ⟨bb, o + j * s2, none⟩ := by
      unfold Addr.add
      split
      · rename_i h0; rw [h0]; rfl
      · rfl
    have : (Instr.indexAt t (.pointer (some ⟨bb, o, none⟩)) (.int ki i)).run P w = .ok (.pointer (some ⟨bb, o + j * s2, none⟩)) w := by
      unfold Instr.indexAt
      simp only [asIntOf, Sem.run_bind, Sem.run_pure, Result.andThen_ok, run_underlying hu, Instr.sureAddr]
      rw [if_pos ⟨h0, hi⟩]
      simp only [Sem.run_bind, hsz, Result.andThen_ok, hj, hadd]
      rfl
    simp only [execOp, hx, hy, Sem.run_bind]
    rw [this]
    rfl) k
/-- A slice literal, by its elements. -/
theorem J.bsT {α : Type} {enc : α → List Value} {size : Nat} {e : TypeId} {len : Nat} {parts : List (Nat × Operand)} {ps : List (Nat × List Value)} {zc cl : List Value} {s1 s2 b1 b2 : Nat} {z1 : Option Value} {z : Value} {de : TypeDesc} (us : List α) (hΓ : Fits P Γ) (hE : ∀ t, (enc t).length = size) (hg : wantB n f l0 ⟨some d, .buildSlice t len ⟨parts⟩, ty, pos, aft, g⟩ = true)
    (ht : look Γ t = some ⟨.slice e, s1, z1, b1⟩) (he : look Γ e = some ⟨de, size, some z, b2⟩) (hz : vcells z = some zc) (hzl : Nat.beq zc.length size = true) (hlen : Nat.ble (len * size) 16777216 = true)
    (hp : partsEv (Cx.ev n f) parts = some ps) (h : fillEv (fun i => some (i * size, size)) (zrep len zc) ps = some cl) (hm : us.length = len) (hus : us.flatMap enc = cl)
    (k : ∀ b h, OwT enc size e (some ⟨b, 0, none⟩) len us h → J P n w0 R l0 K rest (upd f d (.slice (some ⟨b, 0, none⟩) len len)) (h :: L)) : J P n w0 R l0 K ((κ + 2, ⟨some d, .buildSlice t len ⟨parts⟩, ty, pos, aft, g⟩) :: rest) f L :=
  J.bslice hΓ hg ht he hz hzl hlen hp h (fun b => k b _ ⟨hE, .inr ⟨b, cl, rfl, rfl, by rw [← hus, flat_len hE, hm], by omega, by rw [← hus, List.take_of_length_le (by rw [flat_len hE]; exact Nat.le_refl _)]⟩⟩)
theorem J.idxJ {α : Type} {enc : α → List Value} {a : Option Addr} {ts : List α} {h : Heap} {t e : TypeId} {s1 s2 : Nat} {z1 z2 : Option Value} {b1 b2 : Nat} {de : TypeDesc} {x ix : Operand} {len cap : Nat} {kk : IntKind} {i : Int} {j : Nat} (hΓ : Fits P Γ) (hg : wantB n f l0 ⟨some d, .indexAddr t x ix, ty, pos, aft, g⟩ = true) (hx : Cx.ev n f x = .slice a len cap) (hi : Cx.ev n f ix = .int kk i)
    (ht : look Γ t = some ⟨.slice e, s1, z1, b1⟩) (he : look Γ e = some ⟨de, s2, z2, b2⟩) (hs : SlT enc s2 a ts h) (hlen : ts.length = len) (h0 : 0 ≤ i) (h1 : i < (len : Int)) (hj : i.toNat = j)
    (k : J P n w0 R l0 K rest (upd f d (pel a s2 j 0)) L) : J P n w0 R l0 K ((κ, ⟨some d, .indexAddr t x ix, ty, pos, aft, g⟩) :: rest) f L := by
  subst hj
  exact J.idx hΓ hg hx hi ht he hs hlen h0 h1 k
/-- The address of an element of a slice whose block is at hand. -/
theorem J.idxC {t e : TypeId} {bb o : Nat} {s1 s2 : Nat} {z1 z2 : Option Value} {b1 b2 : Nat} {de : TypeDesc} {x ix : Operand} {len cap : Nat} {kk : IntKind} {i : Int} (hΓ : Fits P Γ) (hg : wantB n f l0 ⟨some d, .indexAddr t x ix, ty, pos, aft, g⟩ = true) (hx : Cx.ev n f x = .slice (some ⟨bb, o, none⟩) len cap) (hi : Cx.ev n f ix = .int kk i)
    (ht : look Γ t = some ⟨.slice e, s1, z1, b1⟩) (he : look Γ e = some ⟨de, s2, z2, b2⟩) (h0 : 0 ≤ i) (h1 : i < (len : Int))
    (k : J P n w0 R l0 K rest (upd f d (.pointer (some ⟨bb, o + i.toNat * s2, none⟩))) L) : J P n w0 R l0 K ((κ, ⟨some d, .indexAddr t x ix, ty, pos, aft, g⟩) :: rest) f L :=
  J.p hg (fun w => by
    have hu := (hΓ t _ ht).1
    have hsz := sizeOf_run hΓ he w
    have hadd : (⟨bb, o, none⟩ : Addr).add (i.toNat * s2) = ⟨bb, o + i.toNat * s2, none⟩ := by
      unfold Addr.add
      split
      · rename_i h0; rw [h0]; rfl
      · rfl
    have : (Instr.indexAt t (.slice (some ⟨bb, o, none⟩) len cap) (.int kk i)).run P w = .ok (.pointer (some ⟨bb, o + i.toNat * s2, none⟩)) w := by
      unfold Instr.indexAt
      simp only [asIntOf, Sem.run_bind, Sem.run_pure, Result.andThen_ok, run_underlying hu]
      rw [if_pos ⟨h0, h1⟩]
      simp only [Sem.run_bind, hsz, Result.andThen_ok, hadd]
      rfl
    simp only [execOp, hx, hi, Sem.run_bind]
    rw [this]
    rfl) k
/-- the function that an operation calls -/
def callOf : Op → Option Nat
  | .call ⟨.value (.func k), _, _⟩ => some k
  | _ => none
theorem J.fn (c : Nat) {dst : Option Tmp} (hn : callOf op = some c) (k : J P n w0 R l0 K ((κ, ⟨dst, op, ty, pos, aft, g⟩) :: rest) f L) : J P n w0 R l0 K ((κ, ⟨dst, op, ty, pos, aft, g⟩) :: rest) f L := k
/-- The guard is decided, and the operation stands. -/
theorem J.wantT {dst : Option Tmp} (hg : wantB n f l0 ⟨dst, op, ty, pos, aft, g⟩ = true) (k : J P n w0 R l0 K ((κ, ⟨dst, op, ty, pos, aft, g⟩) :: rest) f L) : J P n w0 R l0 K ((κ, ⟨dst, op, ty, pos, aft, g⟩) :: rest) f L := k
end

/-- A call that goes on in the caller's memory. -/
theorem calls_in {P : Program} {fid : FuncId} {fn : Func} {c : Code} {n : Nat} {args : List Value} {w w0 : World} {R : Heap} {L : List Heap} {Post : Ending → World → Prop}
    (hf : P.funcs[fid]? = some fn) (hn : fn.ntmps = n) (hb : fn.body = some c) (hsz : Nat.ble args.length n = true) (hH : H w0 R L w) (h : JC P n w0 R c (retK P fn n w0 R Post) (fr0 args) L) : Calls P fid args.toArray w Post := by
  refine calls_of_wp hf hb ?_
  rw [hn]
  refine wp_mono (h _ w (fr0_rep (Nat.le_of_ble_eq_true hsz)) hH) ?_
  intro e a' w' q
  cases e with
  | normal =>
    obtain ⟨f', L', ha', hw', hk⟩ := q
    obtain ⟨v, h1, h2⟩ := hk a' w' ha' hw'
    exact ⟨ha'.2.1, v, h1, h2⟩
  | ret =>
    obtain ⟨f', L', ha', hw', hk⟩ := q
    obtain ⟨v, h1, h2⟩ := hk a' w' ha' hw'
    exact ⟨ha'.2.1, v, h1, h2⟩
  | exit i => obtain ⟨_, _, _, _, hk⟩ := q; exact hk.elim
  | goto i => obtain ⟨_, _, _, _, hk⟩ := q; exact hk.elim
  | panic i => obtain ⟨_, _, _, _, hk⟩ := q; exact hk.elim
  | outgrown => exact q.elim
theorem Gives.of {w0 w : World} {R h : Heap} {L : List Heap} {v : Value} {Φ : Value → Heap → Prop} (hw : H w0 R (h :: L) w) (hk : Φ v h) : Gives Φ w0 (.returned v) w :=
  ⟨v, h, rfl, hw.below, fun x hx => hw.own x (List.mem_append_left _ hx), fun x hx => hw.new x (List.mem_append_left _ hx), by
    have := hw.nodup
    rw [List.flatten_cons, List.map_append] at this
    exact (List.nodup_append.1 this).1, hk⟩
theorem H.nilF {w0 w : World} {R : Heap} {L : List Heap} (h : H w0 R L w) : H w0 R ([] :: L) w := ⟨h.below, h.old, h.own, h.new, h.nodup⟩
theorem JC.nilF {P : Program} {n : Nat} {w0 : World} {R : Heap} {K : Exit → Fr → List Heap → Prop} {f : Fr} {L : List Heap} {c : Code} (k : JC P n w0 R c K f ([] :: L)) : JC P n w0 R c K f L := fun a w ha hw => k a w ha hw.nilF

section
variable {P : Program} {fn : Func} {n : Nat} {w0 : World} {R : Heap} {Post : Ending → World → Prop} {f : Fr} {L : List Heap} {Γ : List (Nat × TI)}
/-- A result that lies in a variable of its own. -/
theorem retC {t ty b : Nat} {cs : List Value} {e : TypeId} {fr : Nat × Nat} {v : Value} (hΓ : Fits P Γ) (hr : fn.results = #[.cell t ty]) (ht : Nat.blt t n = true) (hv : f t = .pointer (some ⟨b, 0, none⟩)) (hb : Rd R L b (.cells ⟨cs⟩ e fr)) (hl : ldEv Γ ty cs 0 = some v)
    (h : ∀ w, H w0 R L w → Post (.returned v) w) : retK P fn n w0 R Post .ret f L := fun a w ha hw => by
  refine ⟨v, ?_, h w hw⟩
  have h1 := ldEv_ok (P := P) hΓ (hw.rd hb) hl
  unfold Instr.loadAt Instr.sureAddr at h1
  simp only [Sem.run_bind, Sem.run_pure, Result.andThen_ok] at h1
  have h2 := ha.getD ht
  rw [hv] at h2
  have h3 : a.tmps[t]?.getD undef = .pointer (some ⟨b, 0, none⟩) := by rw [← h2]; simp [Array.getD_eq_getD_getElem?]
  simp only [results, hr]
  simp [h3, asAddr, Sem.run_bind]
  exact h1
end
end Go.Cx
