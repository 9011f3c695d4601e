/- TreeKnown: part 2. -/
import Derived.Test.YtdiciemlbhkilaaGreatDoorKnA
import Derived.Laws.StructEq
import Derived.KernelRfl
import Derived.ProofKit
import Derived.OpenShut
import Derived.ShutString
import Derived.ChangeOld
import Derived.ChangeMaps5
import Derived.LaidMore
import Derived.Stop.Joined
import Derived.Deep.Slices
import Derived.Test.YtdiciemlbhkilaaGreatDoorChecked
namespace Go.Cx
open Go Go.RowKit
set_option linter.unusedVariables false
set_option linter.unusedSimpArgs false
section
variable {P : Program} {n : Nat} {w0 : World} {R : Heap} {l0 : List Oper} {K : Exit → Fr → List Heap → Prop} {f : Fr} {L : List Heap} {rest : List (Nat × Oper)} {κ : Nat}
variable {Γ : List (Nat × TI)} {d : Nat} {op : Op} {ty : TypeId} {pos : String} {aft : Array Edge} {g : Option (Nat × Bool)} {t u : TypeId} {x y : Operand} {a b : Int}
theorem bin_run {bo : BinOp} {v : Value} {dst : Option Tmp} {k k' : IntKind} (hx : Cx.ev n f x = .int k a) (hy : Cx.ev n f y = .int k' b) (h : ∀ w, (binOp bo t (.int k a) (.int k' b)).run P w = .ok v w) (w : World) :
    (execOp (Cx.ev n f) ⟨dst, .binOp bo t x y u, ty, pos, aft, g⟩).run P w = .ok (.value v) w := by
  simp only [execOp, hx, hy]
  have : (eqGuard bo t x y (.int k a) (.int k' b)).run P w = .ok () w := by cases bo <;> rfl
  simp only [Sem.run_bind]
  rw [this]
  simp only [Result.andThen_ok]
  rw [h w]
  rfl
def opClass : Op → Nat
  | .binOp .add .. => 1 | .binOp .sub .. => 1 | .binOp .mul .. => 1 | .binOp .quo .. => 1 | .binOp .rem .. => 1 | .binOp .shl .. => 1 | .binOp .shr .. => 1 | .binOp .and .. => 1 | .binOp .or .. => 1 | .binOp .andNot .. => 1 | .unOp .neg .. => 1
  | .convert .. => 2 | .indexAddr .. => 3 | .fieldAddr .. => 3 | .load .. => 4 | .store .. => 5 | .box .. => 6 | .alloc .. => 7 | .build .. => 8
  | .binOp .eql .. => 11 | .binOp .neq .. => 11 | .index .. => 12 | .slice .. => 13
  | .move .. => 0 | .assign .. => 0 | .binOp .. => 0 | .unOp .. => 0 | .pick .. => 0 | .extract .. => 0 | .field .. => 0 | .makeFunc .. => 14 | .nilCheck .. => 0 | .call ⟨.builtin .len, _, _⟩ => 10 | .call ⟨.builtin .min, _, _⟩ => 0 | .call ⟨.builtin .max, _, _⟩ => 0
  | _ => 9
theorem J.isJ {rs : List (Nat × Oper)} (k : J P n w0 R l0 K rs f L) : J P n w0 R l0 K rs f L := k
theorem J.addN (hg : wantB n f l0 ⟨some d, .binOp .add t x y u, ty, pos, aft, g⟩ = true) (hx : Cx.ev n f x = .int .i64 a) (hy : Cx.ev n f y = .int .i64 b) (h : -9223372036854775808 ≤ a + b ∧ a + b ≤ 9223372036854775807)
    (k : J P n w0 R l0 K rest (upd f d (.int .i64 (a + b))) L) : J P n w0 R l0 K ((κ, ⟨some d, .binOp .add t x y u, ty, pos, aft, g⟩) :: rest) f L :=
  J.p hg (bin_run hx hy (fun w => by simp [binOp, Op.intArith, IntWalk.i64_in _ h, go_sem])) k
theorem J.subN (hg : wantB n f l0 ⟨some d, .binOp .sub t x y u, ty, pos, aft, g⟩ = true) (hx : Cx.ev n f x = .int .i64 a) (hy : Cx.ev n f y = .int .i64 b) (h : -9223372036854775808 ≤ a - b ∧ a - b ≤ 9223372036854775807)
    (k : J P n w0 R l0 K rest (upd f d (.int .i64 (a - b))) L) : J P n w0 R l0 K ((κ, ⟨some d, .binOp .sub t x y u, ty, pos, aft, g⟩) :: rest) f L :=
  J.p hg (bin_run hx hy (fun w => by simp [binOp, Op.intArith, IntWalk.i64_in _ h, go_sem])) k
theorem J.mulN (hg : wantB n f l0 ⟨some d, .binOp .mul t x y u, ty, pos, aft, g⟩ = true) (hx : Cx.ev n f x = .int .i64 a) (hy : Cx.ev n f y = .int .i64 b) (h : -9223372036854775808 ≤ a * b ∧ a * b ≤ 9223372036854775807)
    (k : J P n w0 R l0 K rest (upd f d (.int .i64 (a * b))) L) : J P n w0 R l0 K ((κ, ⟨some d, .binOp .mul t x y u, ty, pos, aft, g⟩) :: rest) f L :=
  J.p hg (bin_run hx hy (fun w => by simp [binOp, Op.intArith, IntWalk.i64_in _ h, go_sem])) k
theorem J.negN (hg : wantB n f l0 ⟨some d, .unOp .neg t x, ty, pos, aft, g⟩ = true) (hx : Cx.ev n f x = .int .i64 a) (h : -9223372036854775807 ≤ a ∧ a ≤ 9223372036854775807)
    (k : J P n w0 R l0 K rest (upd f d (.int .i64 (-a))) L) : J P n w0 R l0 K ((κ, ⟨some d, .unOp .neg t x, ty, pos, aft, g⟩) :: rest) f L :=
  J.p hg (fun w => by
    have hwr : IntKind.i64.wrap (-a) = -a := IntWalk.i64_in _ (by omega)
    simp [execOp, hx, Op.unary, Op.intArith, hwr, go_sem]) k
theorem J.quo (hg : wantB n f l0 ⟨some d, .binOp .quo t x y u, ty, pos, aft, g⟩ = true) (hx : Cx.ev n f x = .int .i64 a) (hy : Cx.ev n f y = .int .i64 b) (h0 : 0 ≤ a) (h1 : a ≤ 9223372036854775807) (h2 : 1 ≤ b)
    (k : J P n w0 R l0 K rest (upd f d (.int .i64 (a / b))) L) : J P n w0 R l0 K ((κ, ⟨some d, .binOp .quo t x y u, ty, pos, aft, g⟩) :: rest) f L :=
  J.p hg (bin_run hx hy (fun w => by
    have := IntWalk.i64_quo a b ⟨h0, h1, h2⟩
    have hb : ¬ b = 0 := by omega
    simp [binOp, Op.intDiv, hb, this, go_sem])) k
theorem J.rem {k1 : IntKind} (hg : wantB n f l0 ⟨some d, .binOp .rem t x y u, ty, pos, aft, g⟩ = true) (hx : Cx.ev n f x = .int k1 a) (hy : Cx.ev n f y = .int k1 b) (h0 : 0 ≤ a) (h2 : 1 ≤ b)
    (k : J P n w0 R l0 K rest (upd f d (.int k1 (a % b))) L) : J P n w0 R l0 K ((κ, ⟨some d, .binOp .rem t x y u, ty, pos, aft, g⟩) :: rest) f L :=
  J.p hg (bin_run hx hy (fun w => by
    have := IntWalk.rem_in a b h0
    have hb : ¬ b = 0 := by omega
    simp [binOp, Op.intDiv, hb, this, go_sem])) k
theorem J.cvt {src dst : TypeId} {k1 : IntKind} {ts : TI} {s2 b2 : Nat} {z2 : Option Value} (k2 : IntKind) (hΓ : Fits P Γ) (hg : wantB n f l0 ⟨some d, .convert src dst x, ty, pos, aft, g⟩ = true) (hx : Cx.ev n f x = .int k1 a) (hs : look Γ src = some ts) (hd : look Γ dst = some ⟨.int k2, s2, z2, b2⟩) (hk : k2.wrap a = a)
    (k : J P n w0 R l0 K rest (upd f d (.int k2 a)) L) : J P n w0 R l0 K ((κ, ⟨some d, .convert src dst x, ty, pos, aft, g⟩) :: rest) f L := by
  obtain ⟨dd, s3, z3, b3⟩ := ts
  refine J.ev (v := .int k2 a) hΓ hg ?_ k
  simp only [pureEv, hx, hs, hd]
  rw [hk]
theorem wrap_u64 (h : 0 ≤ a ∧ a ≤ 18446744073709551615) : IntKind.u64.wrap a = a := IntWalk.u64_in a h
theorem J.shl1 {yk : IntKind} {j : Int} (hg : wantB n f l0 ⟨some d, .binOp .shl t x y u, ty, pos, aft, g⟩ = true) (hx : Cx.ev n f x = .int .u64 1) (hy : Cx.ev n f y = .int yk j) (h0 : 0 ≤ j) (h1 : j < 64)
    (k : J P n w0 R l0 K rest (upd f d (.int .u64 ((2 ^ j.toNat : Nat) : Int))) L) : J P n w0 R l0 K ((κ, ⟨some d, .binOp .shl t x y u, ty, pos, aft, g⟩) :: rest) f L :=
  J.p hg (bin_run hx hy (fun w => by
    have hj : j.toNat < 64 := by omega
    have hlt : 2 ^ j.toNat < 2 ^ 64 := Nat.pow_lt_pow_right (by omega) hj
    have hm : min j.toNat 64 = j.toNat := by omega
    have hn : ¬ j < 0 := by omega
    have hcast : ((2 : Int) ^ j.toNat) = ((2 ^ j.toNat : Nat) : Int) := by rw [Int.natCast_pow]; rfl
    have hw : IntKind.u64.wrap ((2 : Int) ^ j.toNat) = ((2 ^ j.toNat : Nat) : Int) := by
      rw [hcast, IntWalk.u64_in _ ⟨Int.natCast_nonneg _, by have := Int.ofNat_lt.mpr hlt; have e : ((2 ^ 64 : Nat) : Int) = 18446744073709551616 := rfl; omega⟩]
    simp only [binOp, Op.shift, if_neg hn, IntKind.bits, hm, Int.one_mul, hw]
    rfl)) k
theorem J.shrW {yk : IntKind} {j : Int} {m : Nat} (hg : wantB n f l0 ⟨some d, .binOp .shr t x y u, ty, pos, aft, g⟩ = true) (hx : Cx.ev n f x = .int .u64 (m : Int)) (hy : Cx.ev n f y = .int yk j) (h0 : 0 ≤ j) (h1 : j < 64)
    (k : J P n w0 R l0 K rest (upd f d (.int .u64 ((m / 2 ^ j.toNat : Nat) : Int))) L) : J P n w0 R l0 K ((κ, ⟨some d, .binOp .shr t x y u, ty, pos, aft, g⟩) :: rest) f L :=
  J.p hg (bin_run hx hy (fun w => by
    have hm : min j.toNat 64 = j.toNat := by omega
    have hn : ¬ j < 0 := by omega
    have hcast : ((2 : Int) ^ j.toNat) = ((2 ^ j.toNat : Nat) : Int) := by rw [Int.natCast_pow]; rfl
    have hd : ((m : Int)).fdiv ((2 : Int) ^ j.toNat) = ((m / 2 ^ j.toNat : Nat) : Int) := by
      rw [hcast, Int.fdiv_eq_ediv_of_nonneg _ (Int.natCast_nonneg _)]
      rfl
    simp only [binOp, Op.shift, if_neg hn, IntKind.bits, hm, hd]
    rfl)) k
theorem ofInt_nat (m : Nat) : BitVec.ofInt 64 (m : Int) = BitVec.ofNat 64 m := by simp
theorem bits_u64 {bo : BinOp} {m q r : Nat} (h : ∀ w, (Op.intBits bo .u64 (m : Int) (q : Int)).run P w = .ok (.int .u64 (r : Int)) w) (hb : bo = .and ∨ bo = .or ∨ bo = .xor ∨ bo = .andNot) (w : World) : (binOp bo t (.int .u64 (m : Int)) (.int .u64 (q : Int))).run P w = .ok (.int .u64 (r : Int)) w := by
  have := h w
  rcases hb with rfl | rfl | rfl | rfl <;> simpa [binOp] using this
theorem back_u64 {r : Nat} (hr : r < 2 ^ 64) (w : World) : (pure (Value.int .u64 (IntKind.u64.wrap (r : Int))) : Sem Value).run P w = .ok (.int .u64 (r : Int)) w := by
  rw [IntWalk.u64_in _ ⟨Int.natCast_nonneg _, by have := Int.ofNat_lt.mpr hr; have e : ((2 ^ 64 : Nat) : Int) = 18446744073709551616 := rfl; omega⟩]
  rfl
theorem bv_n {m : Nat} (hm : m < 2 ^ 64) : (BitVec.ofInt 64 (m : Int)).toNat = m := by rw [ofInt_nat, BitVec.toNat_ofNat, Nat.mod_eq_of_lt hm]
theorem J.andW {m q : Nat} (hg : wantB n f l0 ⟨some d, .binOp .and t x y u, ty, pos, aft, g⟩ = true) (hx : Cx.ev n f x = .int .u64 (m : Int)) (hy : Cx.ev n f y = .int .u64 (q : Int)) (hm : m < 2 ^ 64) (hq : q < 2 ^ 64)
    (k : J P n w0 R l0 K rest (upd f d (.int .u64 ((m &&& q : Nat) : Int))) L) : J P n w0 R l0 K ((κ, ⟨some d, .binOp .and t x y u, ty, pos, aft, g⟩) :: rest) f L :=
  J.p hg (bin_run hx hy (bits_u64 (fun w => by
    have := back_u64 (P := P) (r := m &&& q) (Nat.and_lt_two_pow m hq) w
    have e : (BitVec.ofInt 64 (m : Int) &&& BitVec.ofInt 64 (q : Int)).toNat = m &&& q := by rw [BitVec.toNat_and, bv_n hm, bv_n hq]
    show (pure (Value.int .u64 (IntKind.u64.wrap ((BitVec.ofInt 64 (m : Int) &&& BitVec.ofInt 64 (q : Int)).toNat : Int))) : Sem Value).run P w = _
    rw [e]
    exact this) (.inl rfl))) k
theorem J.orW {m q : Nat} (hg : wantB n f l0 ⟨some d, .binOp .or t x y u, ty, pos, aft, g⟩ = true) (hx : Cx.ev n f x = .int .u64 (m : Int)) (hy : Cx.ev n f y = .int .u64 (q : Int)) (hm : m < 2 ^ 64) (hq : q < 2 ^ 64)
    (k : J P n w0 R l0 K rest (upd f d (.int .u64 ((m ||| q : Nat) : Int))) L) : J P n w0 R l0 K ((κ, ⟨some d, .binOp .or t x y u, ty, pos, aft, g⟩) :: rest) f L :=
  J.p hg (bin_run hx hy (bits_u64 (fun w => by
    have := back_u64 (P := P) (r := m ||| q) (Nat.or_lt_two_pow hm hq) w
    have e : (BitVec.ofInt 64 (m : Int) ||| BitVec.ofInt 64 (q : Int)).toNat = m ||| q := by rw [BitVec.toNat_or, bv_n hm, bv_n hq]
    show (pure (Value.int .u64 (IntKind.u64.wrap ((BitVec.ofInt 64 (m : Int) ||| BitVec.ofInt 64 (q : Int)).toNat : Int))) : Sem Value).run P w = _
    rw [e]
    exact this) (.inr (.inl rfl)))) k
theorem J.andNotW {m q : Nat} (hg : wantB n f l0 ⟨some d, .binOp .andNot t x y u, ty, pos, aft, g⟩ = true) (hx : Cx.ev n f x = .int .u64 (m : Int)) (hy : Cx.ev n f y = .int .u64 (q : Int)) (hm : m < 2 ^ 64) (hq : q < 2 ^ 64)
    (k : J P n w0 R l0 K rest (upd f d (.int .u64 ((m &&& (2 ^ 64 - 1 - q) : Nat) : Int))) L) : J P n w0 R l0 K ((κ, ⟨some d, .binOp .andNot t x y u, ty, pos, aft, g⟩) :: rest) f L :=
  J.p hg (bin_run hx hy (bits_u64 (fun w => by
    have := back_u64 (P := P) (r := m &&& (2 ^ 64 - 1 - q)) (Nat.and_lt_two_pow m (by omega)) w
    have e : (BitVec.ofInt 64 (m : Int) &&& ~~~ BitVec.ofInt 64 (q : Int)).toNat = m &&& (2 ^ 64 - 1 - q) := by rw [BitVec.toNat_and, BitVec.toNat_not, bv_n hm, bv_n hq]
    show (pure (Value.int .u64 (IntKind.u64.wrap ((BitVec.ofInt 64 (m : Int) &&& ~~~ BitVec.ofInt 64 (q : Int)).toNat : Int))) : Sem Value).run P w = _
    rw [e]
    exact this) (.inr (.inr (.inr rfl))))) k
theorem J.idxA {m : Nat} {e : TypeId} {i : Int} {j : Nat} {ki : IntKind} {bb o : Nat} {s1 s2 b1 b2 : Nat} {z1 z2 : Option Value} {de : TypeDesc} (hΓ : Fits P Γ) (hg : wantB n f l0 ⟨some d, .indexAddr t x y, ty, pos, aft, g⟩ = true) (hx : Cx.ev n f x = .pointer (some ⟨bb, o, none⟩)) (hy : Cx.ev n f y = .int ki i)
    (ht : look Γ t = some ⟨.array m e, s1, z1, b1⟩) (he : look Γ e = some ⟨de, s2, z2, b2⟩) (h0 : 0 ≤ i) (hi : i < (m : Int)) (hj : i.toNat = j)
    (k : J P n w0 R l0 K rest (upd f d (.pointer (some ⟨bb, o + j * s2, none⟩))) L) : J P n w0 R l0 K ((κ, ⟨some d, .indexAddr t x y, ty, pos, aft, g⟩) :: rest) f L :=
  J.p hg (fun w => by
    have hu := (hΓ t _ ht).1
    have hsz := sizeOf_run hΓ he w
    have hadd : (⟨bb, o, none⟩ : Addr).add (j * s2) = ⟨bb, o + j * s2, none⟩ := by
      unfold Addr.add
      split
      · rename_i h0; rw [h0]; rfl
      · rfl
    have : (Instr.indexAt t (.pointer (some ⟨bb, o, none⟩)) (.int ki i)).run P w = .ok (.pointer (some ⟨bb, o + j * s2, none⟩)) w := by
      unfold Instr.indexAt
      simp only [asIntOf, Sem.run_bind, Sem.run_pure, Result.andThen_ok, run_underlying hu, Instr.sureAddr]
      rw [if_pos ⟨h0, hi⟩]
      simp only [Sem.run_bind, hsz, Result.andThen_ok, hj, hadd]
      rfl
    simp only [execOp, hx, hy, Sem.run_bind]
    rw [this]
    rfl) k
theorem J.idxJ {α : Type} {enc : α → List Value} {a : Option Addr} {ts : List α} {h : Heap} {t e : TypeId} {s1 s2 : Nat} {z1 z2 : Option Value} {b1 b2 : Nat} {de : TypeDesc} {x ix : Operand} {len cap : Nat} {kk : IntKind} {i : Int} {j : Nat} (hΓ : Fits P Γ) (hg : wantB n f l0 ⟨some d, .indexAddr t x ix, ty, pos, aft, g⟩ = true) (hx : Cx.ev n f x = .slice a len cap) (hi : Cx.ev n f ix = .int kk i)
    (ht : look Γ t = some ⟨.slice e, s1, z1, b1⟩) (he : look Γ e = some ⟨de, s2, z2, b2⟩) (hs : SlT enc s2 a ts h) (hlen : ts.length = len) (h0 : 0 ≤ i) (h1 : i < (len : Int)) (hj : i.toNat = j)
    (k : J P n w0 R l0 K rest (upd f d (pel a s2 j 0)) L) : J P n w0 R l0 K ((κ, ⟨some d, .indexAddr t x ix, ty, pos, aft, g⟩) :: rest) f L := by
  subst hj
  exact J.idx hΓ hg hx hi ht he hs hlen h0 h1 k
theorem J.idxC {t e : TypeId} {bb o : Nat} {s1 s2 : Nat} {z1 z2 : Option Value} {b1 b2 : Nat} {de : TypeDesc} {x ix : Operand} {len cap : Nat} {kk : IntKind} {i : Int} (hΓ : Fits P Γ) (hg : wantB n f l0 ⟨some d, .indexAddr t x ix, ty, pos, aft, g⟩ = true) (hx : Cx.ev n f x = .slice (some ⟨bb, o, none⟩) len cap) (hi : Cx.ev n f ix = .int kk i)
    (ht : look Γ t = some ⟨.slice e, s1, z1, b1⟩) (he : look Γ e = some ⟨de, s2, z2, b2⟩) (h0 : 0 ≤ i) (h1 : i < (len : Int))
    (k : J P n w0 R l0 K rest (upd f d (.pointer (some ⟨bb, o + i.toNat * s2, none⟩))) L) : J P n w0 R l0 K ((κ, ⟨some d, .indexAddr t x ix, ty, pos, aft, g⟩) :: rest) f L :=
  J.p hg (fun w => by
    have hu := (hΓ t _ ht).1
    have hsz := sizeOf_run hΓ he w
    have hadd : (⟨bb, o, none⟩ : Addr).add (i.toNat * s2) = ⟨bb, o + i.toNat * s2, none⟩ := by
      unfold Addr.add
      split
      · rename_i h0; rw [h0]; rfl
      · rfl
    have : (Instr.indexAt t (.slice (some ⟨bb, o, none⟩) len cap) (.int kk i)).run P w = .ok (.pointer (some ⟨bb, o + i.toNat * s2, none⟩)) w := by
      unfold Instr.indexAt
      simp only [asIntOf, Sem.run_bind, Sem.run_pure, Result.andThen_ok, run_underlying hu]
      rw [if_pos ⟨h0, h1⟩]
      simp only [Sem.run_bind, hsz, Result.andThen_ok, hadd]
      rfl
    simp only [execOp, hx, hi, Sem.run_bind]
    rw [this]
    rfl) k
def callOf : Op → Option Nat
  | .call ⟨.value (.func k), _, _⟩ => some k
  | _ => none
theorem J.fn (c : Nat) {dst : Option Tmp} (hn : callOf op = some c) (k : J P n w0 R l0 K ((κ, ⟨dst, op, ty, pos, aft, g⟩) :: rest) f L) : J P n w0 R l0 K ((κ, ⟨dst, op, ty, pos, aft, g⟩) :: rest) f L := k
end
theorem calls_in {P : Program} {fid : FuncId} {fn : Func} {c : Code} {n : Nat} {args : List Value} {w w0 : World} {R : Heap} {L : List Heap} {Post : Ending → World → Prop}
    (hf : P.funcs[fid]? = some fn) (hn : fn.ntmps = n) (hb : fn.body = some c) (hsz : Nat.ble args.length n = true) (hH : H w0 R L w) (h : JC P n w0 R c (retK P fn n w0 R Post) (fr0 args) L) : Calls P fid args.toArray w Post := by
  refine calls_of_wp hf hb ?_
  rw [hn]
  refine wp_mono (h _ w (fr0_rep (Nat.le_of_ble_eq_true hsz)) hH) ?_
  intro e a' w' q
  cases e with
  | normal =>
    obtain ⟨f', L', ha', hw', hk⟩ := q
    obtain ⟨v, h1, h2⟩ := hk a' w' ha' hw'
    exact ⟨ha'.2.1, v, h1, h2⟩
  | ret =>
    obtain ⟨f', L', ha', hw', hk⟩ := q
    obtain ⟨v, h1, h2⟩ := hk a' w' ha' hw'
    exact ⟨ha'.2.1, v, h1, h2⟩
  | exit i => obtain ⟨_, _, _, _, hk⟩ := q; exact hk.elim
  | goto i => obtain ⟨_, _, _, _, hk⟩ := q; exact hk.elim
  | panic i => obtain ⟨_, _, _, _, hk⟩ := q; exact hk.elim
  | outgrown => exact q.elim
theorem Gives.of {w0 w : World} {R h : Heap} {L : List Heap} {v : Value} {Φ : Value → Heap → Prop} (hw : H w0 R (h :: L) w) (hk : Φ v h) : Gives Φ w0 (.returned v) w :=
  ⟨v, h, rfl, hw.below, fun x hx => hw.own x (List.mem_append_left _ hx), fun x hx => hw.new x (List.mem_append_left _ hx), by
    have := hw.nodup
    rw [List.flatten_cons, List.map_append] at this
    exact (List.nodup_append.1 this).1, hk⟩
theorem H.nilF {w0 w : World} {R : Heap} {L : List Heap} (h : H w0 R L w) : H w0 R ([] :: L) w := ⟨h.below, h.old, h.own, h.new, h.nodup⟩
theorem JC.nilF {P : Program} {n : Nat} {w0 : World} {R : Heap} {K : Exit → Fr → List Heap → Prop} {f : Fr} {L : List Heap} {c : Code} (k : JC P n w0 R c K f ([] :: L)) : JC P n w0 R c K f L := fun a w ha hw => k a w ha hw.nilF
section
variable {P : Program} {fn : Func} {n : Nat} {w0 : World} {R : Heap} {Post : Ending → World → Prop} {f : Fr} {L : List Heap} {Γ : List (Nat × TI)}
theorem retC {t ty b : Nat} {cs : List Value} {e : TypeId} {fr : Nat × Nat} {v : Value} (hΓ : Fits P Γ) (hr : fn.results = #[.cell t ty]) (ht : Nat.blt t n = true) (hv : f t = .pointer (some ⟨b, 0, none⟩)) (hb : Rd R L b (.cells ⟨cs⟩ e fr)) (hl : ldEv Γ ty cs 0 = some v)
    (h : ∀ w, H w0 R L w → Post (.returned v) w) : retK P fn n w0 R Post .ret f L := fun a w ha hw => by
  refine ⟨v, ?_, h w hw⟩
  have h1 := ldEv_ok (P := P) hΓ (hw.rd hb) hl
  unfold Instr.loadAt Instr.sureAddr at h1
  simp only [Sem.run_bind, Sem.run_pure, Result.andThen_ok] at h1
  have h2 := ha.getD ht
  rw [hv] at h2
  have h3 : a.tmps[t]?.getD undef = .pointer (some ⟨b, 0, none⟩) := by rw [← h2]; simp [Array.getD_eq_getD_getElem?]
  simp only [results, hr]
  simp [h3, asAddr, Sem.run_bind]
  exact h1
end
end Go.Cx
namespace Go.Cx
open Go Go.RowKit
set_option linter.unusedVariables false
set_option linter.unusedSimpArgs false
theorem toNat0 : (0 : Int).toNat = 0 := rfl
theorem toNat1 : (1 : Int).toNat = 1 := rfl
def S (l : List UInt8) : ByteArray := ⟨⟨l⟩⟩
theorem S_size (l : List UInt8) : (S l).size = l.length := rfl
theorem S_append (a b : List UInt8) : S a ++ S b = S (a ++ b) := ByteArray.ext (Array.ext' (by simp [S]))
theorem S_extract (l : List UInt8) (i j : Nat) : (S l).extract i j = S ((l.drop i).take (j - i)) := ByteArray.ext (Array.ext' (by simp [S, List.extract_eq_take_drop]))
theorem S_toList (l : List UInt8) : (S l).toList = l := by
  rw [ByteArray.toList_eq]; rfl
theorem S_get (l : List UInt8) (i : Nat) (h : i < l.length) : (S l)[i]? = some (l.getD i 0) := by
  have hb : i < (S l).size := h
  have : (S l)[i]? = some (S l)[i] := by simp [hb]
  rw [this]
  congr 1
  rw [List.getD_eq_getElem?_getD, List.getElem?_eq_getElem h]
  rfl
def eqF (Γ : List (Nat × TI)) : List Field → List Value → List Value → Option Bool
  | [], _, _ => some true
  | f :: fs, xs, ys =>
    match partEv Γ f.type xs f.offset, partEv Γ f.type ys f.offset, look Γ f.type with
    | some (.int k a), some (.int k' b), some ⟨.int _, _, _, _⟩ => bif sameK k k' then (eqF Γ fs xs ys).map (fun r => (a == b) && r) else none
    | some (.bool a), some (.bool b), some ⟨.bool, _, _, _⟩ => (eqF Γ fs xs ys).map (fun r => (a == b) && r)
    | _, _, _ => none
theorem eqF_ok {P : Program} {Γ : List (Nat × TI)} (hΓ : Fits P Γ) (d : Nat) (xs ys : List Value) : ∀ (fs : List Field) (r : Bool), (∀ f, f ∈ fs → f.name ≠ "_") → eqF Γ fs xs ys = some r → ∀ w, (Op.eqFields (d + 1) ⟨xs⟩ ⟨ys⟩ fs).run P w = .ok r w
  | [], r, _, h, w => by simp only [eqF, Option.some.injEq] at h; subst h; rfl
  | f :: fs, r, hn, h, w => by
    have ih := eqF_ok hΓ d xs ys fs
    have hn' : ∀ f, f ∈ fs → f.name ≠ "_" := fun g hg => hn g (List.mem_cons_of_mem _ hg)
    unfold eqF at h
    unfold Op.eqFields
    rw [if_pos (hn f (List.mem_cons_self ..))]
    split at h
    case h_1 k a k' b k2 s z b2 h1 h2 h3 =>
      cases hk : sameK k k' with
      | false => rw [hk] at h; cases h
      | true =>
        rw [hk] at h
        have hkk := sameK_eq hk
        subst hkk
        cases hr : eqF Γ fs xs ys with
        | none => rw [hr] at h; cases h
        | some r' =>
          rw [hr] at h
          simp only [cond_true, Option.map_some, Option.some.injEq] at h
          subst h
          simp only [Sem.run_bind, partEv_ok hΓ h1, partEv_ok hΓ h2, Result.andThen_ok, run_equalIn_int w d f.type k k2 a b (hΓ _ _ h3).1]
          cases hab : (a == b) with
          | true => simp only [Bool.not_true, Bool.false_eq_true, if_false, Bool.true_and]; exact ih r' hn' hr w
          | false => rfl
    case h_2 a b s z b2 h1 h2 h3 =>
      cases hr : eqF Γ fs xs ys with
      | none => rw [hr] at h; cases h
      | some r' =>
        rw [hr] at h
        simp only [Option.map_some, Option.some.injEq] at h
        subst h
        simp only [Sem.run_bind, partEv_ok hΓ h1, partEv_ok hΓ h2, Result.andThen_ok, run_equalIn_bool' w d f.type a b (hΓ _ _ h3).1]
        cases hab : (a == b) with
        | true => simp only [Bool.not_true, Bool.false_eq_true, if_false, Bool.true_and]; exact ih r' hn' hr w
        | false => rfl
    all_goals cases h
section
variable {P : Program} {n : Nat} {w0 : World} {R : Heap} {l0 : List Oper} {K : Exit → Fr → List Heap → Prop} {f : Fr} {L : List Heap} {rest : List (Nat × Oper)} {κ : Nat}
variable {Γ : List (Nat × TI)} {d : Nat} {op : Op} {ty : TypeId} {pos : String} {aft : Array Edge} {g : Option (Nat × Bool)} {t u : TypeId} {x y : Operand} {a b : List UInt8}
theorem strs_run {bo : BinOp} {v : Value} {dst : Option Tmp} (hx : Cx.ev n f x = .string (S a)) (hy : Cx.ev n f y = .string (S b)) (h : ∀ w, (Op.stringOp bo (S a) (S b)).run P w = .ok v w) (hb : bo = .add ∨ bo = .eql ∨ bo = .neq) (w : World) :
    (execOp (Cx.ev n f) ⟨dst, .binOp bo t x y u, ty, pos, aft, g⟩).run P w = .ok (.value v) w := by
  simp only [execOp, hx, hy]
  have : (eqGuard bo t x y (.string (S a)) (.string (S b))).run P w = .ok () w := by rcases hb with rfl | rfl | rfl <;> rfl
  have h2 : (binOp bo t (.string (S a)) (.string (S b))).run P w = .ok v w := by rcases hb with rfl | rfl | rfl <;> simpa [binOp] using h w
  simp only [Sem.run_bind]
  rw [this]
  simp only [Result.andThen_ok]
  rw [h2]
  rfl
theorem J.cat (hg : wantB n f l0 ⟨some d, .binOp .add t x y u, ty, pos, aft, g⟩ = true) (hx : Cx.ev n f x = .string (S a)) (hy : Cx.ev n f y = .string (S b)) (h : a.length + b.length ≤ 9223372036854775807)
    (k : J P n w0 R l0 K rest (upd f d (.string (S (a ++ b)))) L) : J P n w0 R l0 K ((κ, ⟨some d, .binOp .add t x y u, ty, pos, aft, g⟩) :: rest) f L :=
  J.p hg (strs_run hx hy (fun w => by
    unfold Op.stringOp
    simp only
    rw [if_neg (by rw [S_size, S_size]; show ¬ (9223372036854775807 : Int) < _; omega), S_append]
    rfl) (.inl rfl)) k
theorem J.eqS (hg : wantB n f l0 ⟨some d, .binOp .eql t x y u, ty, pos, aft, g⟩ = true) (hx : Cx.ev n f x = .string (S a)) (hy : Cx.ev n f y = .string (S b))
    (k : J P n w0 R l0 K rest (upd f d (.bool (a == b))) L) : J P n w0 R l0 K ((κ, ⟨some d, .binOp .eql t x y u, ty, pos, aft, g⟩) :: rest) f L :=
  J.p hg (strs_run hx hy (fun w => by
    unfold Op.stringOp
    simp only [S_toList]
    rfl) (.inr (.inl rfl))) k
theorem J.neS (hg : wantB n f l0 ⟨some d, .binOp .neq t x y u, ty, pos, aft, g⟩ = true) (hx : Cx.ev n f x = .string (S a)) (hy : Cx.ev n f y = .string (S b))
    (k : J P n w0 R l0 K rest (upd f d (.bool (!(a == b)))) L) : J P n w0 R l0 K ((κ, ⟨some d, .binOp .neq t x y u, ty, pos, aft, g⟩) :: rest) f L :=
  J.p hg (strs_run hx hy (fun w => by
    unfold Op.stringOp
    simp only [S_toList]
    rfl) (.inr (.inr rfl))) k
theorem J.lenS (hΓ : Fits P Γ) (hg : wantB n f l0 ⟨some d, .call ⟨.builtin .len, ⟨[x]⟩, ⟨[t]⟩⟩, ty, pos, aft, g⟩ = true) (hx : Cx.ev n f x = .string (S a)) (h : pureEv Γ (Cx.ev n f) (.call ⟨.builtin .len, ⟨[x]⟩, ⟨[t]⟩⟩) = some (.int .i64 ((S a).size : Int)))
    (k : J P n w0 R l0 K rest (upd f d (.int .i64 (a.length : Int))) L) : J P n w0 R l0 K ((κ, ⟨some d, .call ⟨.builtin .len, ⟨[x]⟩, ⟨[t]⟩⟩, ty, pos, aft, g⟩) :: rest) f L :=
  J.ev hΓ hg h k
theorem J.ixS {ki : IntKind} {i : Int} {j : Nat} {s1 b1 : Nat} {z1 : Option Value} (hΓ : Fits P Γ) (hg : wantB n f l0 ⟨some d, .index t x y, ty, pos, aft, g⟩ = true) (hx : Cx.ev n f x = .string (S a)) (hy : Cx.ev n f y = .int ki i) (ht : look Γ t = some ⟨.string, s1, z1, b1⟩) (h0 : 0 ≤ i) (h1 : i < (a.length : Int)) (hj : i.toNat = j)
    (k : J P n w0 R l0 K rest (upd f d (.int .u8 ((a.getD j 0).toNat : Int))) L) : J P n w0 R l0 K ((κ, ⟨some d, .index t x y, ty, pos, aft, g⟩) :: rest) f L :=
  J.p hg (fun w => by
    subst hj
    have hu := (hΓ t _ ht).1
    have : (Instr.index t (.string (S a)) (.int ki i)).run P w = .ok (.int .u8 ((a.getD i.toNat 0).toNat : Int)) w := by
      unfold Instr.index
      simp only [asIntOf, Sem.run_bind, Sem.run_pure, Result.andThen_ok, run_underlying hu]
      rw [if_pos h0, S_get a _ (by omega)]
      rfl
    simp only [execOp, hx, hy, Sem.run_bind]
    rw [this]
    rfl) k
theorem J.slL {ki : IntKind} {i : Int} {j : Nat} {s1 b1 : Nat} {z1 : Option Value} (hΓ : Fits P Γ) (hg : wantB n f l0 ⟨some d, .slice t x (some y) none none, ty, pos, aft, g⟩ = true) (hx : Cx.ev n f x = .string (S a)) (hy : Cx.ev n f y = .int ki i) (ht : look Γ t = some ⟨.string, s1, z1, b1⟩) (h0 : 0 ≤ i) (h1 : i ≤ (a.length : Int)) (hj : i.toNat = j)
    (k : J P n w0 R l0 K rest (upd f d (.string (S (a.drop j)))) L) : J P n w0 R l0 K ((κ, ⟨some d, .slice t x (some y) none none, ty, pos, aft, g⟩) :: rest) f L :=
  J.p hg (fun w => by
    subst hj
    have hu := (hΓ t _ ht).1
    have : (Instr.sliceAt t (.string (S a)) (some (.int ki i)) none none).run P w = .ok (.string (S (a.drop i.toNat))) w := by
      rw [run_sliceAt_string w t _ _ _ _ hu]
      unfold Instr.slice Instr.sliceBounds Instr.sliceBound
      simp only [asIntOf, Sem.run_bind, Sem.run_pure, Result.andThen_ok, run_underlying hu]
      simp [S_size, h0, h1, S_extract, go_sem]
      rw [List.take_of_length_le (by simp)]
    simp only [execOp, hx, hy, Sem.run_bind, Option.map_some, Option.map_none]
    rw [this]
    rfl) k
theorem J.slH {ki : IntKind} {i : Int} {j : Nat} {s1 b1 : Nat} {z1 : Option Value} (hΓ : Fits P Γ) (hg : wantB n f l0 ⟨some d, .slice t x none (some y) none, ty, pos, aft, g⟩ = true) (hx : Cx.ev n f x = .string (S a)) (hy : Cx.ev n f y = .int ki i) (ht : look Γ t = some ⟨.string, s1, z1, b1⟩) (h0 : 0 ≤ i) (h1 : i ≤ (a.length : Int)) (hj : i.toNat = j)
    (k : J P n w0 R l0 K rest (upd f d (.string (S (a.take j)))) L) : J P n w0 R l0 K ((κ, ⟨some d, .slice t x none (some y) none, ty, pos, aft, g⟩) :: rest) f L :=
  J.p hg (fun w => by
    subst hj
    have hu := (hΓ t _ ht).1
    have : (Instr.sliceAt t (.string (S a)) none (some (.int ki i)) none).run P w = .ok (.string (S (a.take i.toNat))) w := by
      rw [run_sliceAt_string w t _ _ _ _ hu]
      unfold Instr.slice Instr.sliceBounds Instr.sliceBound
      simp only [asIntOf, Sem.run_bind, Sem.run_pure, Result.andThen_ok, run_underlying hu]
      simp [S_size, h0, h1, S_extract, go_sem]
    simp only [execOp, hx, hy, Sem.run_bind, Option.map_some, Option.map_none]
    rw [this]
    rfl) k
theorem J.mkf {fn : Fn} {ars cs : List Operand} (hΓ : Fits P Γ) (hg : wantB n f l0 ⟨some d, .makeFunc fn ⟨ars⟩ ⟨cs⟩, ty, pos, aft, g⟩ = true)
    (k : J P n w0 R l0 K rest (upd f d (.func fn ⟨ars.map (Cx.ev n f)⟩ ⟨cs.map (Cx.ev n f)⟩)) L) : J P n w0 R l0 K ((κ, ⟨some d, .makeFunc fn ⟨ars⟩ ⟨cs⟩, ty, pos, aft, g⟩) :: rest) f L :=
  J.ev hΓ hg (by simp [pureEv]) k
theorem J.neqT {xs ys : List Value} {fs : List Field} {s1 b1 : Nat} {z1 : Option Value} {r : Bool} (hΓ : Fits P Γ) (hg : wantB n f l0 ⟨some d, .binOp .neq t x y u, ty, pos, aft, g⟩ = true) (hx : Cx.ev n f x = .agg ⟨xs⟩) (hy : Cx.ev n f y = .agg ⟨ys⟩) (ht : look Γ t = some ⟨.struct ⟨fs⟩, s1, z1, b1⟩)
    (h1 : P.eqGuardType P.depth t = false) (h2 : P.stoodInHeld t = false) (h3 : (fs.all fun f => f.name != "_") = true) (hr : eqF Γ fs xs ys = some r)
    (k : J P n w0 R l0 K rest (upd f d (.bool (!r))) L) : J P n w0 R l0 K ((κ, ⟨some d, .binOp .neq t x y u, ty, pos, aft, g⟩) :: rest) f L :=
  J.p hg (fun w => by
    have hu := (hΓ t _ ht).1
    have hfs : P.fieldsOf t = ⟨fs⟩ := by unfold Program.fieldsOf; rw [hu]
    have hn : ∀ f, f ∈ fs → f.name ≠ "_" := fun f hf => by simpa using List.all_eq_true.1 h3 f hf
    simp only [execOp, hx, hy, Sem.run_bind]
    rw [run_eqGuard_agg w .neq t x y _ _ h1]
    simp only [Result.andThen_ok]
    rw [run_neq_struct, run_equalIn_agg w 9999 t _ _ (by rw [hu, hfs]) h2, hfs, eqF_ok hΓ 9998 xs ys fs r hn hr]
    rfl) k
end
section
variable {P : Program} {n : Nat} {w0 : World} {R : Heap} {l0 : List Oper} {K : Exit → Fr → List Heap → Prop} {f : Fr} {L : List Heap} {rest : List (Nat × Oper)} {κ : Nat}
variable {Γ : List (Nat × TI)} {d : Nat} {op : Op} {ty : TypeId} {pos : String} {aft : Array Edge} {g : Option (Nat × Bool)}
variable {α : Type} {enc : α → List Value} {size : Nat} {e : TypeId} {a : Option Addr} {cap : Nat} {ts : List α} {h : Heap}
theorem J.app1b {a1 : Heap} {t : TypeId} {x y : Operand} {len m c gx : Nat} {cl : List Value} {fr : Nat × Nat} {e' s1 b1 b2 : Nat} {z1 : Option Value} {z : Value} {zc : List Value} {de : TypeDesc} (us : List α) (hΓ : Fits P Γ) (hg : wantB n f l0 ⟨some d, .call ⟨.builtin .append, ⟨[x, y]⟩, ⟨[t, t]⟩⟩, ty, pos, aft, g⟩ = true)
    (hx : Cx.ev n f x = .slice a len cap) (hy : Cx.ev n f y = .slice (some ⟨gx, 0, none⟩) m c) (ht : look Γ t = some ⟨.slice e, s1, z1, b1⟩) (he : look Γ e = some ⟨de, size, some z, b2⟩) (hz : vcells z = some zc) (hzl : Nat.beq zc.length size = true)
    (ho : OwT enc size e a cap ts h) (hlen : ts.length = len) (hus : us.flatMap enc = cl) (hm : us.length = m) (h1 : ones cl = true) (hpos : 0 < m) (hb : (len + m) * b2 ≤ 140737488355328) (h63 : len + m ≤ 9223372036854775807)
    (k : ∀ a' cap' h', OwT enc size e a' cap' (ts ++ us) h' → J P n w0 R l0 K rest (upd f d (.slice a' (ts ++ us).length cap')) (a1 :: h' :: L)) :
    J P n w0 R l0 K ((2, ⟨some d, .call ⟨.builtin .append, ⟨[x, y]⟩, ⟨[t, t]⟩⟩, ty, pos, aft, g⟩) :: rest) f ([(gx, .cells ⟨cl⟩ e' fr)] :: a1 :: h :: L) := by
  have hll : (ts ++ us).length = len + m := by rw [List.length_append, hlen, hm]
  rw [hll] at k
  exact J.perm ((List.Perm.swap _ _ _).cons _) (J.app1 us hΓ hg hx hy ht he hz hzl ho hlen hus hm h1 hpos hb h63 (fun a' cap' h' o' => J.perm (.swap _ _ _) (k a' cap' h' o')))
end
end Go.Cx
namespace Go.Cx
open Go Go.RowKit
set_option linter.unusedVariables false
def okS (s : Nat × Nat) : Prop := s.1 < 2 ^ 64 ∧ s.2 < 2 ^ 64
theorem pow64 {j : Nat} (h : j < 64) : 2 ^ j < 2 ^ 64 := Nat.pow_lt_pow_right (by omega) h
section
variable {P : Program} {n : Nat} {w0 : World} {R : Heap} {l0 : List Oper} {K : Exit → Fr → List Heap → Prop} {f : Fr} {L : List Heap} {rest : List (Nat × Oper)} {κ : Nat}
variable {Γ : List (Nat × TI)} {d : Nat} {op : Op} {ty : TypeId} {pos : String} {aft : Array Edge} {g : Option (Nat × Bool)}
theorem J.ev' {v : Value} (hΓ : Fits P Γ) (k : J P n w0 R l0 K rest (upd f d v) L) (hg : wantB n f l0 ⟨some d, op, ty, pos, aft, g⟩ = true := by exact rfl) (h : pureEv Γ (Cx.ev n f) op = some v := by exact rfl) : J P n w0 R l0 K ((κ, ⟨some d, op, ty, pos, aft, g⟩) :: rest) f L := J.ev hΓ hg h k
end
section
variable {P : Program} {n : Nat} {w0 : World} {R : Heap} {l0 : List Oper} {K : Exit → Fr → List Heap → Prop} {f : Fr} {L : List Heap} {rest : List (Nat × Oper)} {κ : Nat}
variable {Γ : List (Nat × TI)} {d : Nat} {op : Op} {ty : TypeId} {pos : String} {aft : Array Edge} {g : Option (Nat × Bool)}
theorem J.kd (k : J P n w0 R l0 K rest (upd f d undef) L) (hg : wantB n f l0 ⟨some d, op, ty, pos, aft, g⟩ = false := by exact rfl) : J P n w0 R l0 K ((κ, ⟨some d, op, ty, pos, aft, g⟩) :: rest) f L := J.skd hg k
end
section
variable {P : Program} {n : Nat} {w0 : World} {R : Heap} {l0 : List Oper} {K : Exit → Fr → List Heap → Prop} {f : Fr} {L : List Heap} {rest : List (Nat × Oper)} {κ : Nat}
variable {Γ : List (Nat × TI)} {d : Nat} {op : Op} {ty : TypeId} {pos : String} {aft : Array Edge} {g : Option (Nat × Bool)}
variable {t : TypeId} {x : Operand} {b off : Nat} {cs : List Value} {e : TypeId} {fr : Nat × Nat} {v : Value} {a1 a2 a3 a4 : Heap}
theorem J.e0 (hΓ : Fits P Γ) (k : J P n w0 R l0 K rest (upd f d v) ([(b, .cells ⟨cs⟩ e fr)] :: L)) (hg : wantB n f l0 ⟨some d, .load t x, ty, pos, aft, g⟩ = true := by exact rfl) (hp : Cx.ev n f x = .pointer (some ⟨b, off, none⟩) := by exact rfl) (hv : ldEv Γ t cs off = some v := by exact rfl) : J P n w0 R l0 K ((κ + 1, ⟨some d, .load t x, ty, pos, aft, g⟩) :: rest) f ([(b, .cells ⟨cs⟩ e fr)] :: L) := J.load0 hΓ hg hp hv k
end
section
variable {P : Program} {n : Nat} {w0 : World} {R : Heap} {l0 : List Oper} {K : Exit → Fr → List Heap → Prop} {f : Fr} {L : List Heap} {rest : List (Nat × Oper)} {κ : Nat}
variable {Γ : List (Nat × TI)} {d : Nat} {op : Op} {ty : TypeId} {pos : String} {aft : Array Edge} {g : Option (Nat × Bool)}
variable {t : TypeId} {x : Operand} {b off : Nat} {cs : List Value} {e : TypeId} {fr : Nat × Nat} {v : Value} {a1 a2 a3 a4 : Heap}
theorem J.e1 (hΓ : Fits P Γ) (k : J P n w0 R l0 K rest (upd f d v) (a1 :: [(b, .cells ⟨cs⟩ e fr)] :: L)) (hg : wantB n f l0 ⟨some d, .load t x, ty, pos, aft, g⟩ = true := by exact rfl) (hp : Cx.ev n f x = .pointer (some ⟨b, off, none⟩) := by exact rfl) (hv : ldEv Γ t cs off = some v := by exact rfl) : J P n w0 R l0 K ((κ + 1, ⟨some d, .load t x, ty, pos, aft, g⟩) :: rest) f (a1 :: [(b, .cells ⟨cs⟩ e fr)] :: L) := J.load1 hΓ hg hp hv k
end
section
variable {P : Program} {n : Nat} {w0 : World} {R : Heap} {l0 : List Oper} {K : Exit → Fr → List Heap → Prop} {f : Fr} {L : List Heap} {rest : List (Nat × Oper)} {κ : Nat}
variable {Γ : List (Nat × TI)} {d : Nat} {op : Op} {ty : TypeId} {pos : String} {aft : Array Edge} {g : Option (Nat × Bool)}
variable {t : TypeId} {x : Operand} {b off : Nat} {cs : List Value} {e : TypeId} {fr : Nat × Nat} {v : Value} {a1 a2 a3 a4 : Heap}
theorem J.e2 (hΓ : Fits P Γ) (k : J P n w0 R l0 K rest (upd f d v) (a1 :: a2 :: [(b, .cells ⟨cs⟩ e fr)] :: L)) (hg : wantB n f l0 ⟨some d, .load t x, ty, pos, aft, g⟩ = true := by exact rfl) (hp : Cx.ev n f x = .pointer (some ⟨b, off, none⟩) := by exact rfl) (hv : ldEv Γ t cs off = some v := by exact rfl) : J P n w0 R l0 K ((κ + 1, ⟨some d, .load t x, ty, pos, aft, g⟩) :: rest) f (a1 :: a2 :: [(b, .cells ⟨cs⟩ e fr)] :: L) := J.load2 hΓ hg hp hv k
end
section
variable {P : Program} {n : Nat} {w0 : World} {R : Heap} {l0 : List Oper} {K : Exit → Fr → List Heap → Prop} {f : Fr} {L : List Heap} {rest : List (Nat × Oper)} {κ : Nat}
variable {Γ : List (Nat × TI)} {d : Nat} {op : Op} {ty : TypeId} {pos : String} {aft : Array Edge} {g : Option (Nat × Bool)}
variable {t : TypeId} {x : Operand} {b off : Nat} {cs : List Value} {e : TypeId} {fr : Nat × Nat} {v : Value} {a1 a2 a3 a4 : Heap}
theorem J.e3 (hΓ : Fits P Γ) (k : J P n w0 R l0 K rest (upd f d v) (a1 :: a2 :: a3 :: [(b, .cells ⟨cs⟩ e fr)] :: L)) (hg : wantB n f l0 ⟨some d, .load t x, ty, pos, aft, g⟩ = true := by exact rfl) (hp : Cx.ev n f x = .pointer (some ⟨b, off, none⟩) := by exact rfl) (hv : ldEv Γ t cs off = some v := by exact rfl) : J P n w0 R l0 K ((κ + 1, ⟨some d, .load t x, ty, pos, aft, g⟩) :: rest) f (a1 :: a2 :: a3 :: [(b, .cells ⟨cs⟩ e fr)] :: L) := J.load3 hΓ hg hp hv k
end
section
variable {P : Program} {n : Nat} {w0 : World} {R : Heap} {l0 : List Oper} {K : Exit → Fr → List Heap → Prop} {f : Fr} {L : List Heap} {rest : List (Nat × Oper)} {κ : Nat}
variable {Γ : List (Nat × TI)} {d : Nat} {op : Op} {ty : TypeId} {pos : String} {aft : Array Edge} {g : Option (Nat × Bool)}
variable {t : TypeId} {x : Operand} {b off : Nat} {cs : List Value} {e : TypeId} {fr : Nat × Nat} {v : Value} {a1 a2 a3 a4 : Heap}
theorem J.e4 (hΓ : Fits P Γ) (k : J P n w0 R l0 K rest (upd f d v) (a1 :: a2 :: a3 :: a4 :: [(b, .cells ⟨cs⟩ e fr)] :: L)) (hg : wantB n f l0 ⟨some d, .load t x, ty, pos, aft, g⟩ = true := by exact rfl) (hp : Cx.ev n f x = .pointer (some ⟨b, off, none⟩) := by exact rfl) (hv : ldEv Γ t cs off = some v := by exact rfl) : J P n w0 R l0 K ((κ + 1, ⟨some d, .load t x, ty, pos, aft, g⟩) :: rest) f (a1 :: a2 :: a3 :: a4 :: [(b, .cells ⟨cs⟩ e fr)] :: L) := J.load4 hΓ hg hp hv k
end
section
variable {P : Program} {n : Nat} {w0 : World} {R : Heap} {l0 : List Oper} {K : Exit → Fr → List Heap → Prop} {f : Fr} {L : List Heap} {rest : List (Nat × Oper)} {κ : Nat}
variable {Γ : List (Nat × TI)} {d : Nat} {op : Op} {ty : TypeId} {pos : String} {aft : Array Edge} {g : Option (Nat × Bool)}
theorem J.lR {t : TypeId} {x : Operand} {b off : Nat} {cs : List Value} {e : TypeId} {fr : Nat × Nat} {v : Value} (hΓ : Fits P Γ) (k : J P n w0 R l0 K rest (upd f d v) L) (hg : wantB n f l0 ⟨some d, .load t x, ty, pos, aft, g⟩ = true := by exact rfl) (hp : Cx.ev n f x = .pointer (some ⟨b, off, none⟩) := by exact rfl) (hr : Rd R L b (.cells ⟨cs⟩ e fr) := by first | assumption | exact Rd.tl (by assumption) | exact Rd.tl (Rd.tl (by assumption)) | exact Rd.hd | exact Rd.hd.tl | exact Rd.hd.tl.tl | exact Rd.hd.tl.tl.tl | exact Rd.hd.tl.tl.tl.tl | exact Rd.hd.tl.tl.tl.tl.tl | exact Rd.hd.tl.tl.tl.tl.tl.tl | exact Rd.hd.tl.tl.tl.tl.tl.tl.tl | exact Rd.hd.tl.tl.tl.tl.tl.tl.tl.tl | exact Rd.hd.tl.tl.tl.tl.tl.tl.tl.tl.tl | exact Rd.hd.tl.tl.tl.tl.tl.tl.tl.tl.tl.tl | exact Rd.hd.tl.tl.tl.tl.tl.tl.tl.tl.tl.tl.tl | exact Rd.hd.tl.tl.tl.tl.tl.tl.tl.tl.tl.tl.tl.tl) (hv : ldEv Γ t cs off = some v := by exact rfl) : J P n w0 R l0 K ((κ + 1, ⟨some d, .load t x, ty, pos, aft, g⟩) :: rest) f L := J.load hΓ hg hp hr hv k
end
section
variable {P : Program} {n : Nat} {w0 : World} {R : Heap} {l0 : List Oper} {K : Exit → Fr → List Heap → Prop} {f : Fr} {L : List Heap} {rest : List (Nat × Oper)} {κ : Nat}
variable {Γ : List (Nat × TI)} {d : Nat} {op : Op} {ty : TypeId} {pos : String} {aft : Array Edge} {g : Option (Nat × Bool)}
variable {α : Type} {enc : α → List Value} {a : Option Addr} {ts : List α} {h : Heap}
theorem J.lT {t : TypeId} {sz k o : Nat} {x : Operand} {v : Value} (dflt : α) (hΓ : Fits P Γ) (kk : J P n w0 R l0 K rest (upd f d v) L) (hg : wantB n f l0 ⟨some d, .load t x, ty, pos, aft, g⟩ = true := by exact rfl) (hx : Cx.ev n f x = pel a sz k o := by exact rfl) (hs : SlT enc sz a ts h := by first | assumption | exact OwT.sl (by assumption)) (hr : RdH R L h := by first | exact RdH.hd | exact RdH.hd.tl | exact RdH.hd.tl.tl | exact RdH.hd.tl.tl.tl | exact RdH.hd.tl.tl.tl.tl | exact RdH.hd.tl.tl.tl.tl.tl | exact RdH.hd.tl.tl.tl.tl.tl.tl | exact RdH.hd.tl.tl.tl.tl.tl.tl.tl | exact RdH.hd.tl.tl.tl.tl.tl.tl.tl.tl | exact RdH.hd.tl.tl.tl.tl.tl.tl.tl.tl.tl | exact RdH.hd.tl.tl.tl.tl.tl.tl.tl.tl.tl.tl | exact RdH.hd.tl.tl.tl.tl.tl.tl.tl.tl.tl.tl.tl | exact RdH.hd.tl.tl.tl.tl.tl.tl.tl.tl.tl.tl.tl.tl | exact RdH.old (fun _ hh => hh) | assumption) (hk : k < ts.length := by first | omega | exact Nat.le_of_ble_eq_true rfl | (simp only [List.length_set, List.length_append, List.length_cons, List.length_nil]; omega)) (hv : ldEv Γ t (enc (ts.getD k dflt)) o = some v := by exact rfl) : J P n w0 R l0 K ((κ + 1, ⟨some d, .load t x, ty, pos, aft, g⟩) :: rest) f L := J.ldT dflt hΓ hg hx hs hr hk hv kk
end
section
variable {P : Program} {n : Nat} {w0 : World} {R : Heap} {l0 : List Oper} {K : Exit → Fr → List Heap → Prop} {f : Fr} {L : List Heap} {rest : List (Nat × Oper)} {κ : Nat}
variable {Γ : List (Nat × TI)} {d : Nat} {op : Op} {ty : TypeId} {pos : String} {aft : Array Edge} {g : Option (Nat × Bool)} {t u : TypeId} {x y : Operand} {a b : Int}
theorem J.iA {m : Nat} {e : TypeId} {i : Int} {j : Nat} {ki : IntKind} {bb o : Nat} {s1 s2 b1 b2 : Nat} {z1 z2 : Option Value} {de : TypeDesc} (hΓ : Fits P Γ) (k : J P n w0 R l0 K rest (upd f d (.pointer (some ⟨bb, o + j * s2, none⟩))) L) (hg : wantB n f l0 ⟨some d, .indexAddr t x y, ty, pos, aft, g⟩ = true := by exact rfl) (hx : Cx.ev n f x = .pointer (some ⟨bb, o, none⟩) := by exact rfl) (hy : Cx.ev n f y = .int ki i := by exact rfl) (ht : look Γ t = some ⟨.array m e, s1, z1, b1⟩ := by exact rfl) (he : look Γ e = some ⟨de, s2, z2, b2⟩ := by exact rfl) (h0 : 0 ≤ i := by omega) (hi : i < (m : Int) := by omega) (hj : i.toNat = j := by first | (show _ = 0; omega) | (show _ = 1; omega) | exact rfl) : J P n w0 R l0 K ((κ, ⟨some d, .indexAddr t x y, ty, pos, aft, g⟩) :: rest) f L := J.idxA hΓ hg hx hy ht he h0 hi hj k
end
section
variable {P : Program} {n : Nat} {w0 : World} {R : Heap} {l0 : List Oper} {K : Exit → Fr → List Heap → Prop} {f : Fr} {L : List Heap} {rest : List (Nat × Oper)} {κ : Nat}
variable {Γ : List (Nat × TI)} {d : Nat} {op : Op} {ty : TypeId} {pos : String} {aft : Array Edge} {g : Option (Nat × Bool)} {t u : TypeId} {x y : Operand} {a b : Int}
theorem J.iJ {α : Type} {enc : α → List Value} {a : Option Addr} {ts : List α} {h : Heap} {t e : TypeId} {s1 s2 : Nat} {z1 z2 : Option Value} {b1 b2 : Nat} {de : TypeDesc} {x ix : Operand} {len cap : Nat} {kk : IntKind} {i : Int} {j : Nat} (hΓ : Fits P Γ) (k : J P n w0 R l0 K rest (upd f d (pel a s2 j 0)) L) (hg : wantB n f l0 ⟨some d, .indexAddr t x ix, ty, pos, aft, g⟩ = true := by exact rfl) (hx : Cx.ev n f x = .slice a len cap := by exact rfl) (hi : Cx.ev n f ix = .int kk i := by exact rfl) (ht : look Γ t = some ⟨.slice e, s1, z1, b1⟩ := by exact rfl) (he : look Γ e = some ⟨de, s2, z2, b2⟩ := by exact rfl) (hs : SlT enc s2 a ts h := by first | assumption | exact OwT.sl (by assumption)) (hlen : ts.length = len := by first | rfl | assumption | omega | (simp only [List.length_set, List.length_append, List.length_cons, List.length_nil]; omega)) (h0 : 0 ≤ i := by omega) (h1 : i < (len : Int) := by first | omega | (simp only [List.length_append, List.length_cons, List.length_nil]; omega)) (hj : i.toNat = j := by first | (with_reducible exact Int.toNat_natCast _) | (with_reducible exact toNat0) | (with_reducible exact toNat1) | exact rfl) : J P n w0 R l0 K ((κ, ⟨some d, .indexAddr t x ix, ty, pos, aft, g⟩) :: rest) f L := J.idxJ hΓ hg hx hi ht he hs hlen h0 h1 hj k
end
section
variable {P : Program} {n : Nat} {w0 : World} {R : Heap} {l0 : List Oper} {K : Exit → Fr → List Heap → Prop} {f : Fr} {L : List Heap} {rest : List (Nat × Oper)} {κ : Nat}
variable {Γ : List (Nat × TI)} {d : Nat} {op : Op} {ty : TypeId} {pos : String} {aft : Array Edge} {g : Option (Nat × Bool)}
variable {α : Type} {enc : α → List Value} {a : Option Addr} {ts : List α} {h : Heap}
theorem J.fP {t : TypeId} {i sz k o : Nat} {x : Operand} {fs : Array Field} {fd : Field} {s1 s2 b1 b2 : Nat} {z1 z2 : Option Value} {de : TypeDesc} (hΓ : Fits P Γ) (kk : J P n w0 R l0 K rest (upd f d (pel a sz k (o + fd.offset))) L) (hg : wantB n f l0 ⟨some d, .fieldAddr t x i, ty, pos, aft, g⟩ = true := by exact rfl) (hx : Cx.ev n f x = pel a sz k o := by exact rfl) (ht : look Γ t = some ⟨.struct fs, s1, z1, b1⟩ := by exact rfl) (hf : fs[i]? = some fd := by exact rfl) (hl : look Γ fd.type = some ⟨de, s2, z2, b2⟩ := by exact rfl) (hn : Nat.beq s2 0 = false := by exact rfl) : J P n w0 R l0 K ((κ, ⟨some d, .fieldAddr t x i, ty, pos, aft, g⟩) :: rest) f L := J.fldP hΓ hg hx ht hf hl hn kk
end
section
variable {P : Program} {n : Nat} {w0 : World} {R : Heap} {l0 : List Oper} {K : Exit → Fr → List Heap → Prop} {f : Fr} {L : List Heap} {rest : List (Nat × Oper)} {κ : Nat}
variable {Γ : List (Nat × TI)} {d : Nat} {op : Op} {ty : TypeId} {pos : String} {aft : Array Edge} {g : Option (Nat × Bool)} {t u : TypeId} {x y : Operand} {a b : Int}
theorem J.iC {t e : TypeId} {bb o : Nat} {s1 s2 : Nat} {z1 z2 : Option Value} {b1 b2 : Nat} {de : TypeDesc} {x ix : Operand} {len cap : Nat} {kk : IntKind} {i : Int} (hΓ : Fits P Γ) (k : J P n w0 R l0 K rest (upd f d (.pointer (some ⟨bb, o + i.toNat * s2, none⟩))) L) (hg : wantB n f l0 ⟨some d, .indexAddr t x ix, ty, pos, aft, g⟩ = true := by exact rfl) (hx : Cx.ev n f x = .slice (some ⟨bb, o, none⟩) len cap := by exact rfl) (hi : Cx.ev n f ix = .int kk i := by exact rfl) (ht : look Γ t = some ⟨.slice e, s1, z1, b1⟩ := by exact rfl) (he : look Γ e = some ⟨de, s2, z2, b2⟩ := by exact rfl) (h0 : 0 ≤ i := by omega) (h1 : i < (len : Int) := by omega) : J P n w0 R l0 K ((κ, ⟨some d, .indexAddr t x ix, ty, pos, aft, g⟩) :: rest) f L := J.idxC hΓ hg hx hi ht he h0 h1 k
end
section
variable {P : Program} {n : Nat} {w0 : World} {R : Heap} {l0 : List Oper} {K : Exit → Fr → List Heap → Prop} {f : Fr} {L : List Heap} {rest : List (Nat × Oper)} {κ : Nat}
variable {Γ : List (Nat × TI)} {d : Nat} {op : Op} {ty : TypeId} {pos : String} {aft : Array Edge} {g : Option (Nat × Bool)} {t u : TypeId} {x y : Operand} {a b : Int}
theorem J.ad (k : J P n w0 R l0 K rest (upd f d (.int .i64 (a + b))) L) (hg : wantB n f l0 ⟨some d, .binOp .add t x y u, ty, pos, aft, g⟩ = true := by exact rfl) (hx : Cx.ev n f x = .int .i64 a := by exact rfl) (hy : Cx.ev n f y = .int .i64 b := by exact rfl) (h : -9223372036854775808 ≤ a + b ∧ a + b ≤ 9223372036854775807 := by omega) : J P n w0 R l0 K ((κ, ⟨some d, .binOp .add t x y u, ty, pos, aft, g⟩) :: rest) f L := J.addN hg hx hy h k
end
section
variable {P : Program} {n : Nat} {w0 : World} {R : Heap} {l0 : List Oper} {K : Exit → Fr → List Heap → Prop} {f : Fr} {L : List Heap} {rest : List (Nat × Oper)} {κ : Nat}
variable {Γ : List (Nat × TI)} {d : Nat} {op : Op} {ty : TypeId} {pos : String} {aft : Array Edge} {g : Option (Nat × Bool)} {t u : TypeId} {x y : Operand} {a b : Int}
theorem J.sb (k : J P n w0 R l0 K rest (upd f d (.int .i64 (a - b))) L) (hg : wantB n f l0 ⟨some d, .binOp .sub t x y u, ty, pos, aft, g⟩ = true := by exact rfl) (hx : Cx.ev n f x = .int .i64 a := by exact rfl) (hy : Cx.ev n f y = .int .i64 b := by exact rfl) (h : -9223372036854775808 ≤ a - b ∧ a - b ≤ 9223372036854775807 := by omega) : J P n w0 R l0 K ((κ, ⟨some d, .binOp .sub t x y u, ty, pos, aft, g⟩) :: rest) f L := J.subN hg hx hy h k
end
section
variable {P : Program} {n : Nat} {w0 : World} {R : Heap} {l0 : List Oper} {K : Exit → Fr → List Heap → Prop} {f : Fr} {L : List Heap} {rest : List (Nat × Oper)} {κ : Nat}
variable {Γ : List (Nat × TI)} {d : Nat} {op : Op} {ty : TypeId} {pos : String} {aft : Array Edge} {g : Option (Nat × Bool)} {t u : TypeId} {x y : Operand} {a b : Int}
theorem J.mu (k : J P n w0 R l0 K rest (upd f d (.int .i64 (a * b))) L) (hg : wantB n f l0 ⟨some d, .binOp .mul t x y u, ty, pos, aft, g⟩ = true := by exact rfl) (hx : Cx.ev n f x = .int .i64 a := by exact rfl) (hy : Cx.ev n f y = .int .i64 b := by exact rfl) (h : -9223372036854775808 ≤ a * b ∧ a * b ≤ 9223372036854775807 := by omega) : J P n w0 R l0 K ((κ, ⟨some d, .binOp .mul t x y u, ty, pos, aft, g⟩) :: rest) f L := J.mulN hg hx hy h k
end
section
variable {P : Program} {n : Nat} {w0 : World} {R : Heap} {l0 : List Oper} {K : Exit → Fr → List Heap → Prop} {f : Fr} {L : List Heap} {rest : List (Nat × Oper)} {κ : Nat}
variable {Γ : List (Nat × TI)} {d : Nat} {op : Op} {ty : TypeId} {pos : String} {aft : Array Edge} {g : Option (Nat × Bool)} {t u : TypeId} {x y : Operand} {a b : Int}
theorem J.ng (k : J P n w0 R l0 K rest (upd f d (.int .i64 (-a))) L) (hg : wantB n f l0 ⟨some d, .unOp .neg t x, ty, pos, aft, g⟩ = true := by exact rfl) (hx : Cx.ev n f x = .int .i64 a := by exact rfl) (h : -9223372036854775807 ≤ a ∧ a ≤ 9223372036854775807 := by omega) : J P n w0 R l0 K ((κ, ⟨some d, .unOp .neg t x, ty, pos, aft, g⟩) :: rest) f L := J.negN hg hx h k
end
section
variable {P : Program} {n : Nat} {w0 : World} {R : Heap} {l0 : List Oper} {K : Exit → Fr → List Heap → Prop} {f : Fr} {L : List Heap} {rest : List (Nat × Oper)} {κ : Nat}
variable {Γ : List (Nat × TI)} {d : Nat} {op : Op} {ty : TypeId} {pos : String} {aft : Array Edge} {g : Option (Nat × Bool)} {t u : TypeId} {x y : Operand} {a b : Int}
theorem J.qu (k : J P n w0 R l0 K rest (upd f d (.int .i64 (a / b))) L) (hg : wantB n f l0 ⟨some d, .binOp .quo t x y u, ty, pos, aft, g⟩ = true := by exact rfl) (hx : Cx.ev n f x = .int .i64 a := by exact rfl) (hy : Cx.ev n f y = .int .i64 b := by exact rfl) (h0 : 0 ≤ a := by omega) (h1 : a ≤ 9223372036854775807 := by omega) (h2 : 1 ≤ b := by omega) : J P n w0 R l0 K ((κ, ⟨some d, .binOp .quo t x y u, ty, pos, aft, g⟩) :: rest) f L := J.quo hg hx hy h0 h1 h2 k
end
section
variable {P : Program} {n : Nat} {w0 : World} {R : Heap} {l0 : List Oper} {K : Exit → Fr → List Heap → Prop} {f : Fr} {L : List Heap} {rest : List (Nat × Oper)} {κ : Nat}
variable {Γ : List (Nat × TI)} {d : Nat} {op : Op} {ty : TypeId} {pos : String} {aft : Array Edge} {g : Option (Nat × Bool)} {t u : TypeId} {x y : Operand} {a b : Int}
theorem J.rm {k1 : IntKind} (k : J P n w0 R l0 K rest (upd f d (.int k1 (a % b))) L) (hg : wantB n f l0 ⟨some d, .binOp .rem t x y u, ty, pos, aft, g⟩ = true := by exact rfl) (hx : Cx.ev n f x = .int k1 a := by exact rfl) (hy : Cx.ev n f y = .int k1 b := by exact rfl) (h0 : 0 ≤ a := by first | omega | exact Int.natCast_nonneg _) (h2 : 1 ≤ b := by omega) : J P n w0 R l0 K ((κ, ⟨some d, .binOp .rem t x y u, ty, pos, aft, g⟩) :: rest) f L := J.rem hg hx hy h0 h2 k
end
section
variable {P : Program} {n : Nat} {w0 : World} {R : Heap} {l0 : List Oper} {K : Exit → Fr → List Heap → Prop} {f : Fr} {L : List Heap} {rest : List (Nat × Oper)} {κ : Nat}
variable {Γ : List (Nat × TI)} {d : Nat} {op : Op} {ty : TypeId} {pos : String} {aft : Array Edge} {g : Option (Nat × Bool)} {t u : TypeId} {x y : Operand} {a b : Int}
theorem J.s1 {yk : IntKind} {j : Int} (k : J P n w0 R l0 K rest (upd f d (.int .u64 ((2 ^ j.toNat : Nat) : Int))) L) (hg : wantB n f l0 ⟨some d, .binOp .shl t x y u, ty, pos, aft, g⟩ = true := by exact rfl) (hx : Cx.ev n f x = .int .u64 1 := by exact rfl) (hy : Cx.ev n f y = .int yk j := by exact rfl) (h0 : 0 ≤ j := by omega) (h1 : j < 64 := by omega) : J P n w0 R l0 K ((κ, ⟨some d, .binOp .shl t x y u, ty, pos, aft, g⟩) :: rest) f L := J.shl1 hg hx hy h0 h1 k
end
section
variable {P : Program} {n : Nat} {w0 : World} {R : Heap} {l0 : List Oper} {K : Exit → Fr → List Heap → Prop} {f : Fr} {L : List Heap} {rest : List (Nat × Oper)} {κ : Nat}
variable {Γ : List (Nat × TI)} {d : Nat} {op : Op} {ty : TypeId} {pos : String} {aft : Array Edge} {g : Option (Nat × Bool)} {t u : TypeId} {x y : Operand} {a b : Int}
theorem J.sr {yk : IntKind} {j : Int} {m : Nat} (k : J P n w0 R l0 K rest (upd f d (.int .u64 ((m / 2 ^ j.toNat : Nat) : Int))) L) (hg : wantB n f l0 ⟨some d, .binOp .shr t x y u, ty, pos, aft, g⟩ = true := by exact rfl) (hx : Cx.ev n f x = .int .u64 (m : Int) := by exact rfl) (hy : Cx.ev n f y = .int yk j := by exact rfl) (h0 : 0 ≤ j := by omega) (h1 : j < 64 := by omega) : J P n w0 R l0 K ((κ, ⟨some d, .binOp .shr t x y u, ty, pos, aft, g⟩) :: rest) f L := J.shrW hg hx hy h0 h1 k
end
section
variable {P : Program} {n : Nat} {w0 : World} {R : Heap} {l0 : List Oper} {K : Exit → Fr → List Heap → Prop} {f : Fr} {L : List Heap} {rest : List (Nat × Oper)} {κ : Nat}
variable {Γ : List (Nat × TI)} {d : Nat} {op : Op} {ty : TypeId} {pos : String} {aft : Array Edge} {g : Option (Nat × Bool)} {t u : TypeId} {x y : Operand} {a b : Int}
theorem J.aW {m q : Nat} (k : J P n w0 R l0 K rest (upd f d (.int .u64 ((m &&& q : Nat) : Int))) L) (hg : wantB n f l0 ⟨some d, .binOp .and t x y u, ty, pos, aft, g⟩ = true := by exact rfl) (hx : Cx.ev n f x = .int .u64 (m : Int) := by exact rfl) (hy : Cx.ev n f y = .int .u64 (q : Int) := by exact rfl) (hm : m < 2 ^ 64 := by first | assumption | (exact pow64 (by omega)) | (simp only [okS] at *; omega)) (hq : q < 2 ^ 64 := by first | assumption | (exact pow64 (by omega)) | (simp only [okS] at *; omega)) : J P n w0 R l0 K ((κ, ⟨some d, .binOp .and t x y u, ty, pos, aft, g⟩) :: rest) f L := J.andW hg hx hy hm hq k
end
section
variable {P : Program} {n : Nat} {w0 : World} {R : Heap} {l0 : List Oper} {K : Exit → Fr → List Heap → Prop} {f : Fr} {L : List Heap} {rest : List (Nat × Oper)} {κ : Nat}
variable {Γ : List (Nat × TI)} {d : Nat} {op : Op} {ty : TypeId} {pos : String} {aft : Array Edge} {g : Option (Nat × Bool)} {t u : TypeId} {x y : Operand} {a b : Int}
theorem J.oW {m q : Nat} (k : J P n w0 R l0 K rest (upd f d (.int .u64 ((m ||| q : Nat) : Int))) L) (hg : wantB n f l0 ⟨some d, .binOp .or t x y u, ty, pos, aft, g⟩ = true := by exact rfl) (hx : Cx.ev n f x = .int .u64 (m : Int) := by exact rfl) (hy : Cx.ev n f y = .int .u64 (q : Int) := by exact rfl) (hm : m < 2 ^ 64 := by first | assumption | (exact pow64 (by omega)) | (simp only [okS] at *; omega)) (hq : q < 2 ^ 64 := by first | assumption | (exact pow64 (by omega)) | (simp only [okS] at *; omega)) : J P n w0 R l0 K ((κ, ⟨some d, .binOp .or t x y u, ty, pos, aft, g⟩) :: rest) f L := J.orW hg hx hy hm hq k
end
section
variable {P : Program} {n : Nat} {w0 : World} {R : Heap} {l0 : List Oper} {K : Exit → Fr → List Heap → Prop} {f : Fr} {L : List Heap} {rest : List (Nat × Oper)} {κ : Nat}
variable {Γ : List (Nat × TI)} {d : Nat} {op : Op} {ty : TypeId} {pos : String} {aft : Array Edge} {g : Option (Nat × Bool)} {t u : TypeId} {x y : Operand} {a b : Int}
theorem J.nW {m q : Nat} (k : J P n w0 R l0 K rest (upd f d (.int .u64 ((m &&& (2 ^ 64 - 1 - q) : Nat) : Int))) L) (hg : wantB n f l0 ⟨some d, .binOp .andNot t x y u, ty, pos, aft, g⟩ = true := by exact rfl) (hx : Cx.ev n f x = .int .u64 (m : Int) := by exact rfl) (hy : Cx.ev n f y = .int .u64 (q : Int) := by exact rfl) (hm : m < 2 ^ 64 := by first | assumption | (exact pow64 (by omega)) | (simp only [okS] at *; omega)) (hq : q < 2 ^ 64 := by first | assumption | (exact pow64 (by omega)) | (simp only [okS] at *; omega)) : J P n w0 R l0 K ((κ, ⟨some d, .binOp .andNot t x y u, ty, pos, aft, g⟩) :: rest) f L := J.andNotW hg hx hy hm hq k
end
section
variable {P : Program} {n : Nat} {w0 : World} {R : Heap} {l0 : List Oper} {K : Exit → Fr → List Heap → Prop} {f : Fr} {L : List Heap} {rest : List (Nat × Oper)} {κ : Nat}
variable {Γ : List (Nat × TI)} {d : Nat} {op : Op} {ty : TypeId} {pos : String} {aft : Array Edge} {g : Option (Nat × Bool)} {t u : TypeId} {x y : Operand} {a b : Int}
theorem J.cv {src dst : TypeId} {k1 : IntKind} {ts : TI} {s2 b2 : Nat} {z2 : Option Value} (k2 : IntKind) (hΓ : Fits P Γ) (k : J P n w0 R l0 K rest (upd f d (.int k2 a)) L) (hg : wantB n f l0 ⟨some d, .convert src dst x, ty, pos, aft, g⟩ = true := by exact rfl) (hx : Cx.ev n f x = .int k1 a := by exact rfl) (hs : look Γ src = some ts := by exact rfl) (hd : look Γ dst = some ⟨.int k2, s2, z2, b2⟩ := by exact rfl) (hk : k2.wrap a = a := by first | exact wrap_i64 (by omega) | exact wrap_u64 (by omega) | exact wrap_u8 (by omega)) : J P n w0 R l0 K ((κ, ⟨some d, .convert src dst x, ty, pos, aft, g⟩) :: rest) f L := J.cvt k2 hΓ hg hx hs hd hk k
end
section
variable {P : Program} {n : Nat} {w0 : World} {R : Heap} {l0 : List Oper} {K : Exit → Fr → List Heap → Prop} {f : Fr} {L : List Heap} {rest : List (Nat × Oper)} {κ : Nat}
variable {Γ : List (Nat × TI)} {d : Nat} {op : Op} {ty : TypeId} {pos : String} {aft : Array Edge} {g : Option (Nat × Bool)}
theorem J.t0 {t : TypeId} {ti : TI} {x y : Operand} {b off : Nat} {cs cl cs' : List Value} {e : TypeId} (hΓ : Fits P Γ) (k : J P n w0 R l0 K rest f ([(b, .cells ⟨cs'⟩ e (0, 0))] :: L)) (hg : wantB n f l0 ⟨none, .store t x y, ty, pos, aft, g⟩ = true := by exact rfl) (hp : Cx.ev n f x = .pointer (some ⟨b, off, none⟩) := by exact rfl) (ht : look Γ t = some ti := by exact rfl) (hv : vcells (Cx.ev n f y) = some cl := by exact rfl) (hn : Nat.beq cl.length ti.size = true := by exact rfl) (h1 : ones cl = true := by exact rfl) (hcs : putE cs off cl = some cs' := by exact rfl) : J P n w0 R l0 K ((2, ⟨none, .store t x y, ty, pos, aft, g⟩) :: rest) f ([(b, .cells ⟨cs⟩ e (0, 0))] :: L) := J.store0 hΓ hg hp ht hv hn h1 hcs k
end
section
variable {P : Program} {n : Nat} {w0 : World} {R : Heap} {l0 : List Oper} {K : Exit → Fr → List Heap → Prop} {f : Fr} {L : List Heap} {rest : List (Nat × Oper)} {κ : Nat}
variable {Γ : List (Nat × TI)} {d : Nat} {op : Op} {ty : TypeId} {pos : String} {aft : Array Edge} {g : Option (Nat × Bool)}
theorem J.t1 {a1 : Heap} {t : TypeId} {ti : TI} {x y : Operand} {b off : Nat} {cs cl cs' : List Value} {e : TypeId} (hΓ : Fits P Γ) (k : J P n w0 R l0 K rest f (a1 :: [(b, .cells ⟨cs'⟩ e (0, 0))] :: L)) (hg : wantB n f l0 ⟨none, .store t x y, ty, pos, aft, g⟩ = true := by exact rfl) (hp : Cx.ev n f x = .pointer (some ⟨b, off, none⟩) := by exact rfl) (ht : look Γ t = some ti := by exact rfl) (hv : vcells (Cx.ev n f y) = some cl := by exact rfl) (hn : Nat.beq cl.length ti.size = true := by exact rfl) (h1 : ones cl = true := by exact rfl) (hcs : putE cs off cl = some cs' := by exact rfl) : J P n w0 R l0 K ((2, ⟨none, .store t x y, ty, pos, aft, g⟩) :: rest) f (a1 :: [(b, .cells ⟨cs⟩ e (0, 0))] :: L) := J.store1 hΓ hg hp ht hv hn h1 hcs k
end
section
variable {P : Program} {n : Nat} {w0 : World} {R : Heap} {l0 : List Oper} {K : Exit → Fr → List Heap → Prop} {f : Fr} {L : List Heap} {rest : List (Nat × Oper)} {κ : Nat}
variable {Γ : List (Nat × TI)} {d : Nat} {op : Op} {ty : TypeId} {pos : String} {aft : Array Edge} {g : Option (Nat × Bool)}
theorem J.t2 {a1 a2 : Heap} {t : TypeId} {ti : TI} {x y : Operand} {b off : Nat} {cs cl cs' : List Value} {e : TypeId} (hΓ : Fits P Γ) (k : J P n w0 R l0 K rest f (a1 :: a2 :: [(b, .cells ⟨cs'⟩ e (0, 0))] :: L)) (hg : wantB n f l0 ⟨none, .store t x y, ty, pos, aft, g⟩ = true := by exact rfl) (hp : Cx.ev n f x = .pointer (some ⟨b, off, none⟩) := by exact rfl) (ht : look Γ t = some ti := by exact rfl) (hv : vcells (Cx.ev n f y) = some cl := by exact rfl) (hn : Nat.beq cl.length ti.size = true := by exact rfl) (h1 : ones cl = true := by exact rfl) (hcs : putE cs off cl = some cs' := by exact rfl) : J P n w0 R l0 K ((2, ⟨none, .store t x y, ty, pos, aft, g⟩) :: rest) f (a1 :: a2 :: [(b, .cells ⟨cs⟩ e (0, 0))] :: L) := J.store2 hΓ hg hp ht hv hn h1 hcs k
end
section
variable {P : Program} {n : Nat} {w0 : World} {R : Heap} {l0 : List Oper} {K : Exit → Fr → List Heap → Prop} {f : Fr} {L : List Heap} {rest : List (Nat × Oper)} {κ : Nat}
variable {Γ : List (Nat × TI)} {d : Nat} {op : Op} {ty : TypeId} {pos : String} {aft : Array Edge} {g : Option (Nat × Bool)}
variable {α : Type} {enc : α → List Value} {a : Option Addr} {ts us : List α} {h : Heap} {size e cap : Nat}
theorem J.tT {t : TypeId} {x y : Operand} {ti : TI} {cl cl' : List Value} {i o : Nat} (u : α) (dflt : α) (hΓ : Fits P Γ) (k : ∀ h', OwT enc size e a cap (ts.set i u) h' → J P n w0 R l0 K rest f (h' :: L)) (hg : wantB n f l0 ⟨none, .store t x y, ty, pos, aft, g⟩ = true := by exact rfl) (hx : Cx.ev n f x = pel a size i o := by exact rfl) (ht : look Γ t = some ti := by exact rfl) (hv : vcells (Cx.ev n f y) = some cl := by exact rfl) (hn : Nat.beq cl.length ti.size = true := by exact rfl) (h1 : ones cl = true := by exact rfl) (ho : OwT enc size e a cap ts h := by assumption) (hi : i < ts.length := by first | omega | exact Nat.le_of_ble_eq_true rfl | (simp only [List.length_set, List.length_append, List.length_cons, List.length_nil]; omega)) (hcl : putE (enc (ts.getD i dflt)) o cl = some cl' := by exact rfl) (hu : enc u = cl' := by exact rfl) : J P n w0 R l0 K ((2, ⟨none, .store t x y, ty, pos, aft, g⟩) :: rest) f (h :: L) := J.stT u dflt hΓ hg hx ht hv hn h1 ho hi hcl hu k
end
section
variable {P : Program} {n : Nat} {w0 : World} {R : Heap} {l0 : List Oper} {K : Exit → Fr → List Heap → Prop} {f : Fr} {L : List Heap} {rest : List (Nat × Oper)} {κ : Nat}
variable {Γ : List (Nat × TI)} {d : Nat} {op : Op} {ty : TypeId} {pos : String} {aft : Array Edge} {g : Option (Nat × Bool)}
variable {α : Type} {enc : α → List Value} {a : Option Addr} {ts us : List α} {h : Heap} {size e cap : Nat}
theorem J.tT1 {a1 : Heap} {t : TypeId} {x y : Operand} {ti : TI} {cl cl' : List Value} {i o : Nat} (u : α) (dflt : α) (hΓ : Fits P Γ) (k : ∀ h', OwT enc size e a cap (ts.set i u) h' → J P n w0 R l0 K rest f (a1 :: h' :: L)) (hg : wantB n f l0 ⟨none, .store t x y, ty, pos, aft, g⟩ = true := by exact rfl) (hx : Cx.ev n f x = pel a size i o := by exact rfl) (ht : look Γ t = some ti := by exact rfl) (hv : vcells (Cx.ev n f y) = some cl := by exact rfl) (hn : Nat.beq cl.length ti.size = true := by exact rfl) (h1 : ones cl = true := by exact rfl) (ho : OwT enc size e a cap ts h := by assumption) (hi : i < ts.length := by first | omega | exact Nat.le_of_ble_eq_true rfl | (simp only [List.length_set, List.length_append, List.length_cons, List.length_nil]; omega)) (hcl : putE (enc (ts.getD i dflt)) o cl = some cl' := by exact rfl) (hu : enc u = cl' := by exact rfl) : J P n w0 R l0 K ((2, ⟨none, .store t x y, ty, pos, aft, g⟩) :: rest) f (a1 :: h :: L) := J.stT1 u dflt hΓ hg hx ht hv hn h1 ho hi hcl hu k
end
section
variable {P : Program} {n : Nat} {w0 : World} {R : Heap} {l0 : List Oper} {K : Exit → Fr → List Heap → Prop} {f : Fr} {L : List Heap} {rest : List (Nat × Oper)} {κ : Nat}
variable {Γ : List (Nat × TI)} {d : Nat} {op : Op} {ty : TypeId} {pos : String} {aft : Array Edge} {g : Option (Nat × Bool)}
variable {α : Type} {enc : α → List Value} {a : Option Addr} {ts us : List α} {h : Heap} {size e cap : Nat}
theorem J.tT2 {a1 a2 : Heap} {t : TypeId} {x y : Operand} {ti : TI} {cl cl' : List Value} {i o : Nat} (u : α) (dflt : α) (hΓ : Fits P Γ) (k : ∀ h', OwT enc size e a cap (ts.set i u) h' → J P n w0 R l0 K rest f (a1 :: a2 :: h' :: L)) (hg : wantB n f l0 ⟨none, .store t x y, ty, pos, aft, g⟩ = true := by exact rfl) (hx : Cx.ev n f x = pel a size i o := by exact rfl) (ht : look Γ t = some ti := by exact rfl) (hv : vcells (Cx.ev n f y) = some cl := by exact rfl) (hn : Nat.beq cl.length ti.size = true := by exact rfl) (h1 : ones cl = true := by exact rfl) (ho : OwT enc size e a cap ts h := by assumption) (hi : i < ts.length := by first | omega | exact Nat.le_of_ble_eq_true rfl | (simp only [List.length_set, List.length_append, List.length_cons, List.length_nil]; omega)) (hcl : putE (enc (ts.getD i dflt)) o cl = some cl' := by exact rfl) (hu : enc u = cl' := by exact rfl) : J P n w0 R l0 K ((2, ⟨none, .store t x y, ty, pos, aft, g⟩) :: rest) f (a1 :: a2 :: h :: L) := J.stT2 u dflt hΓ hg hx ht hv hn h1 ho hi hcl hu k
end
section
variable {P : Program} {n : Nat} {w0 : World} {R : Heap} {l0 : List Oper} {K : Exit → Fr → List Heap → Prop} {f : Fr} {L : List Heap} {rest : List (Nat × Oper)} {κ : Nat}
variable {Γ : List (Nat × TI)} {d : Nat} {op : Op} {ty : TypeId} {pos : String} {aft : Array Edge} {g : Option (Nat × Bool)}
variable {α : Type} {enc : α → List Value} {a : Option Addr} {ts us : List α} {h : Heap} {size e cap : Nat}
theorem J.tT3 {a1 a2 a3 : Heap} {t : TypeId} {x y : Operand} {ti : TI} {cl cl' : List Value} {i o : Nat} (u : α) (dflt : α) (hΓ : Fits P Γ) (k : ∀ h', OwT enc size e a cap (ts.set i u) h' → J P n w0 R l0 K rest f (a1 :: a2 :: a3 :: h' :: L)) (hg : wantB n f l0 ⟨none, .store t x y, ty, pos, aft, g⟩ = true := by exact rfl) (hx : Cx.ev n f x = pel a size i o := by exact rfl) (ht : look Γ t = some ti := by exact rfl) (hv : vcells (Cx.ev n f y) = some cl := by exact rfl) (hn : Nat.beq cl.length ti.size = true := by exact rfl) (h1 : ones cl = true := by exact rfl) (ho : OwT enc size e a cap ts h := by assumption) (hi : i < ts.length := by first | omega | exact Nat.le_of_ble_eq_true rfl | (simp only [List.length_set, List.length_append, List.length_cons, List.length_nil]; omega)) (hcl : putE (enc (ts.getD i dflt)) o cl = some cl' := by exact rfl) (hu : enc u = cl' := by exact rfl) : J P n w0 R l0 K ((2, ⟨none, .store t x y, ty, pos, aft, g⟩) :: rest) f (a1 :: a2 :: a3 :: h :: L) := J.stT3 u dflt hΓ hg hx ht hv hn h1 ho hi hcl hu k
end
section
variable {P : Program} {n : Nat} {w0 : World} {R : Heap} {l0 : List Oper} {K : Exit → Fr → List Heap → Prop} {f : Fr} {L : List Heap} {rest : List (Nat × Oper)} {κ : Nat}
variable {Γ : List (Nat × TI)} {d : Nat} {op : Op} {ty : TypeId} {pos : String} {aft : Array Edge} {g : Option (Nat × Bool)}
theorem J.bx {t : TypeId} {x : Operand} {cl : List Value} (k : ∀ b, J P n w0 R l0 K rest (upd f d (.pointer (some ⟨b, 0, none⟩))) ([(b, .cells ⟨cl⟩ t (0, 0))] :: L)) (hg : wantB n f l0 ⟨some d, .box t x, ty, pos, aft, g⟩ = true := by exact rfl) (hc : vcells (Cx.ev n f x) = some cl := by exact rfl) : J P n w0 R l0 K ((κ + 2, ⟨some d, .box t x, ty, pos, aft, g⟩) :: rest) f L := J.box hg hc k
end
section
variable {P : Program} {n : Nat} {w0 : World} {R : Heap} {l0 : List Oper} {K : Exit → Fr → List Heap → Prop} {f : Fr} {L : List Heap} {rest : List (Nat × Oper)} {κ : Nat}
variable {Γ : List (Nat × TI)} {d : Nat} {op : Op} {ty : TypeId} {pos : String} {aft : Array Edge} {g : Option (Nat × Bool)}
theorem J.al {t : TypeId} {ti : TI} {z : Value} {cl : List Value} (hΓ : Fits P Γ) (k : ∀ b, J P n w0 R l0 K rest (upd f d (.pointer (some ⟨b, 0, none⟩))) ([(b, .cells ⟨cl⟩ t (0, 0))] :: L)) (hg : wantB n f l0 ⟨some d, .alloc t, ty, pos, aft, g⟩ = true := by exact rfl) (ht : look Γ t = some ti := by exact rfl) (hz : ti.zero = some z := by exact rfl) (hc : vcells z = some cl := by exact rfl) : J P n w0 R l0 K ((κ + 2, ⟨some d, .alloc t, ty, pos, aft, g⟩) :: rest) f L := J.alloc hΓ hg ht hz hc k
end
section
variable {P : Program} {n : Nat} {w0 : World} {R : Heap} {l0 : List Oper} {K : Exit → Fr → List Heap → Prop} {f : Fr} {L : List Heap} {rest : List (Nat × Oper)} {κ : Nat}
variable {Γ : List (Nat × TI)} {d : Nat} {op : Op} {ty : TypeId} {pos : String} {aft : Array Edge} {g : Option (Nat × Bool)}
theorem J.bd {t : TypeId} {parts : List (Nat × Operand)} {ps : List (Nat × List Value)} {cl : List Value} (hΓ : Fits P Γ) (k : J P n w0 R l0 K rest (upd f d (.agg ⟨cl⟩)) L) (hg : wantB n f l0 ⟨some d, .build t ⟨parts⟩, ty, pos, aft, g⟩ = true := by exact rfl) (hp : partsEv (Cx.ev n f) parts = some ps := by exact rfl) (h : buildEv Γ t ps = some cl := by exact rfl) : J P n w0 R l0 K ((κ, ⟨some d, .build t ⟨parts⟩, ty, pos, aft, g⟩) :: rest) f L := J.build hΓ hg hp h k
end
section
variable {P : Program} {n : Nat} {w0 : World} {R : Heap} {l0 : List Oper} {K : Exit → Fr → List Heap → Prop} {f : Fr} {L : List Heap} {rest : List (Nat × Oper)} {κ : Nat}
variable {Γ : List (Nat × TI)} {d : Nat} {op : Op} {ty : TypeId} {pos : String} {aft : Array Edge} {g : Option (Nat × Bool)}
theorem J.bl {t e : TypeId} {len : Nat} {parts : List (Nat × Operand)} {ps : List (Nat × List Value)} {zc cl : List Value} {s1 s2 b1 b2 : Nat} {z1 : Option Value} {z : Value} {de : TypeDesc} (hΓ : Fits P Γ) (k : ∀ b, J P n w0 R l0 K rest (upd f d (.slice (some ⟨b, 0, none⟩) len len)) ([(b, .cells ⟨cl⟩ e (0, 0))] :: L)) (hg : wantB n f l0 ⟨some d, .buildSlice t len ⟨parts⟩, ty, pos, aft, g⟩ = true := by exact rfl) (ht : look Γ t = some ⟨.slice e, s1, z1, b1⟩ := by exact rfl) (he : look Γ e = some ⟨de, s2, some z, b2⟩ := by exact rfl) (hz : vcells z = some zc := by exact rfl) (hzl : Nat.beq zc.length s2 = true := by exact rfl) (hlen : Nat.ble (len * s2) 16777216 = true := by exact rfl) (hp : partsEv (Cx.ev n f) parts = some ps := by exact rfl) (h : fillEv (fun i => some (i * s2, s2)) (zrep len zc) ps = some cl := by exact rfl) : J P n w0 R l0 K ((κ + 2, ⟨some d, .buildSlice t len ⟨parts⟩, ty, pos, aft, g⟩) :: rest) f L := J.bslice hΓ hg ht he hz hzl hlen hp h k
end
section
variable {P : Program} {n : Nat} {w0 : World} {R : Heap} {l0 : List Oper} {K : Exit → Fr → List Heap → Prop} {f : Fr} {L : List Heap} {rest : List (Nat × Oper)} {κ : Nat}
variable {Γ : List (Nat × TI)} {d : Nat} {op : Op} {ty : TypeId} {pos : String} {aft : Array Edge} {g : Option (Nat × Bool)} {t u : TypeId} {x y : Operand} {a b : List UInt8}
theorem J.ct (k : J P n w0 R l0 K rest (upd f d (.string (S (a ++ b)))) L) (hg : wantB n f l0 ⟨some d, .binOp .add t x y u, ty, pos, aft, g⟩ = true := by exact rfl) (hx : Cx.ev n f x = .string (S a) := by exact rfl) (hy : Cx.ev n f y = .string (S b) := by exact rfl) (h : a.length + b.length ≤ 9223372036854775807 := by first | omega | (simp only [List.length_append, List.length_cons, List.length_nil]; omega)) : J P n w0 R l0 K ((κ, ⟨some d, .binOp .add t x y u, ty, pos, aft, g⟩) :: rest) f L := J.cat hg hx hy h k
end
section
variable {P : Program} {n : Nat} {w0 : World} {R : Heap} {l0 : List Oper} {K : Exit → Fr → List Heap → Prop} {f : Fr} {L : List Heap} {rest : List (Nat × Oper)} {κ : Nat}
variable {Γ : List (Nat × TI)} {d : Nat} {op : Op} {ty : TypeId} {pos : String} {aft : Array Edge} {g : Option (Nat × Bool)} {t u : TypeId} {x y : Operand} {a b : List UInt8}
theorem J.ls (hΓ : Fits P Γ) (k : J P n w0 R l0 K rest (upd f d (.int .i64 (a.length : Int))) L) (hg : wantB n f l0 ⟨some d, .call ⟨.builtin .len, ⟨[x]⟩, ⟨[t]⟩⟩, ty, pos, aft, g⟩ = true := by exact rfl) (hx : Cx.ev n f x = .string (S a) := by exact rfl) (h : pureEv Γ (Cx.ev n f) (.call ⟨.builtin .len, ⟨[x]⟩, ⟨[t]⟩⟩) = some (.int .i64 ((S a).size : Int)) := by exact rfl) : J P n w0 R l0 K ((κ, ⟨some d, .call ⟨.builtin .len, ⟨[x]⟩, ⟨[t]⟩⟩, ty, pos, aft, g⟩) :: rest) f L := J.lenS hΓ hg hx h k
end
section
variable {P : Program} {n : Nat} {w0 : World} {R : Heap} {l0 : List Oper} {K : Exit → Fr → List Heap → Prop} {f : Fr} {L : List Heap} {rest : List (Nat × Oper)} {κ : Nat}
variable {Γ : List (Nat × TI)} {d : Nat} {op : Op} {ty : TypeId} {pos : String} {aft : Array Edge} {g : Option (Nat × Bool)} {t u : TypeId} {x y : Operand} {a b : List UInt8}
theorem J.eS (k : J P n w0 R l0 K rest (upd f d (.bool (a == b))) L) (hg : wantB n f l0 ⟨some d, .binOp .eql t x y u, ty, pos, aft, g⟩ = true := by exact rfl) (hx : Cx.ev n f x = .string (S a) := by exact rfl) (hy : Cx.ev n f y = .string (S b) := by exact rfl) : J P n w0 R l0 K ((κ, ⟨some d, .binOp .eql t x y u, ty, pos, aft, g⟩) :: rest) f L := J.eqS hg hx hy k
end
section
variable {P : Program} {n : Nat} {w0 : World} {R : Heap} {l0 : List Oper} {K : Exit → Fr → List Heap → Prop} {f : Fr} {L : List Heap} {rest : List (Nat × Oper)} {κ : Nat}
variable {Γ : List (Nat × TI)} {d : Nat} {op : Op} {ty : TypeId} {pos : String} {aft : Array Edge} {g : Option (Nat × Bool)} {t u : TypeId} {x y : Operand} {a b : List UInt8}
theorem J.xS (k : J P n w0 R l0 K rest (upd f d (.bool (!(a == b)))) L) (hg : wantB n f l0 ⟨some d, .binOp .neq t x y u, ty, pos, aft, g⟩ = true := by exact rfl) (hx : Cx.ev n f x = .string (S a) := by exact rfl) (hy : Cx.ev n f y = .string (S b) := by exact rfl) : J P n w0 R l0 K ((κ, ⟨some d, .binOp .neq t x y u, ty, pos, aft, g⟩) :: rest) f L := J.neS hg hx hy k
end
section
variable {P : Program} {n : Nat} {w0 : World} {R : Heap} {l0 : List Oper} {K : Exit → Fr → List Heap → Prop} {f : Fr} {L : List Heap} {rest : List (Nat × Oper)} {κ : Nat}
variable {Γ : List (Nat × TI)} {d : Nat} {op : Op} {ty : TypeId} {pos : String} {aft : Array Edge} {g : Option (Nat × Bool)} {t u : TypeId} {x y : Operand} {a b : List UInt8}
theorem J.ix {ki : IntKind} {i : Int} {j : Nat} {s1 b1 : Nat} {z1 : Option Value} (hΓ : Fits P Γ) (k : J P n w0 R l0 K rest (upd f d (.int .u8 ((a.getD j 0).toNat : Int))) L) (hg : wantB n f l0 ⟨some d, .index t x y, ty, pos, aft, g⟩ = true := by exact rfl) (hx : Cx.ev n f x = .string (S a) := by exact rfl) (hy : Cx.ev n f y = .int ki i := by exact rfl) (ht : look Γ t = some ⟨.string, s1, z1, b1⟩ := by exact rfl) (h0 : 0 ≤ i := by omega) (h1 : i < (a.length : Int) := by first | omega | (simp only [List.length_append, List.length_cons, List.length_nil]; omega)) (hj : i.toNat = j := by first | (with_reducible exact Int.toNat_natCast _) | (with_reducible exact toNat0) | (with_reducible exact toNat1) | exact rfl) : J P n w0 R l0 K ((κ, ⟨some d, .index t x y, ty, pos, aft, g⟩) :: rest) f L := J.ixS hΓ hg hx hy ht h0 h1 hj k
end
section
variable {P : Program} {n : Nat} {w0 : World} {R : Heap} {l0 : List Oper} {K : Exit → Fr → List Heap → Prop} {f : Fr} {L : List Heap} {rest : List (Nat × Oper)} {κ : Nat}
variable {Γ : List (Nat × TI)} {d : Nat} {op : Op} {ty : TypeId} {pos : String} {aft : Array Edge} {g : Option (Nat × Bool)} {t u : TypeId} {x y : Operand} {a b : List UInt8}
theorem J.sL {ki : IntKind} {i : Int} {j : Nat} {s1 b1 : Nat} {z1 : Option Value} (hΓ : Fits P Γ) (k : J P n w0 R l0 K rest (upd f d (.string (S (a.drop j)))) L) (hg : wantB n f l0 ⟨some d, .slice t x (some y) none none, ty, pos, aft, g⟩ = true := by exact rfl) (hx : Cx.ev n f x = .string (S a) := by exact rfl) (hy : Cx.ev n f y = .int ki i := by exact rfl) (ht : look Γ t = some ⟨.string, s1, z1, b1⟩ := by exact rfl) (h0 : 0 ≤ i := by omega) (h1 : i ≤ (a.length : Int) := by first | omega | (simp only [List.length_append, List.length_cons, List.length_nil]; omega)) (hj : i.toNat = j := by first | (with_reducible exact Int.toNat_natCast _) | (with_reducible exact toNat0) | (with_reducible exact toNat1) | exact rfl) : J P n w0 R l0 K ((κ, ⟨some d, .slice t x (some y) none none, ty, pos, aft, g⟩) :: rest) f L := J.slL hΓ hg hx hy ht h0 h1 hj k
end
section
variable {P : Program} {n : Nat} {w0 : World} {R : Heap} {l0 : List Oper} {K : Exit → Fr → List Heap → Prop} {f : Fr} {L : List Heap} {rest : List (Nat × Oper)} {κ : Nat}
variable {Γ : List (Nat × TI)} {d : Nat} {op : Op} {ty : TypeId} {pos : String} {aft : Array Edge} {g : Option (Nat × Bool)} {t u : TypeId} {x y : Operand} {a b : List UInt8}
theorem J.sH {ki : IntKind} {i : Int} {j : Nat} {s1 b1 : Nat} {z1 : Option Value} (hΓ : Fits P Γ) (k : J P n w0 R l0 K rest (upd f d (.string (S (a.take j)))) L) (hg : wantB n f l0 ⟨some d, .slice t x none (some y) none, ty, pos, aft, g⟩ = true := by exact rfl) (hx : Cx.ev n f x = .string (S a) := by exact rfl) (hy : Cx.ev n f y = .int ki i := by exact rfl) (ht : look Γ t = some ⟨.string, s1, z1, b1⟩ := by exact rfl) (h0 : 0 ≤ i := by omega) (h1 : i ≤ (a.length : Int) := by first | omega | (simp only [List.length_append, List.length_cons, List.length_nil]; omega)) (hj : i.toNat = j := by first | (with_reducible exact Int.toNat_natCast _) | (with_reducible exact toNat0) | (with_reducible exact toNat1) | exact rfl) : J P n w0 R l0 K ((κ, ⟨some d, .slice t x none (some y) none, ty, pos, aft, g⟩) :: rest) f L := J.slH hΓ hg hx hy ht h0 h1 hj k
end
section
variable {P : Program} {n : Nat} {w0 : World} {R : Heap} {l0 : List Oper} {K : Exit → Fr → List Heap → Prop} {f : Fr} {L : List Heap} {rest : List (Nat × Oper)} {κ : Nat}
variable {Γ : List (Nat × TI)} {d : Nat} {op : Op} {ty : TypeId} {pos : String} {aft : Array Edge} {g : Option (Nat × Bool)} {t u : TypeId} {x y : Operand} {a b : List UInt8}
theorem J.mf {fn : Fn} {ars cs : List Operand} (hΓ : Fits P Γ) (k : J P n w0 R l0 K rest (upd f d (.func fn ⟨ars.map (Cx.ev n f)⟩ ⟨cs.map (Cx.ev n f)⟩)) L) (hg : wantB n f l0 ⟨some d, .makeFunc fn ⟨ars⟩ ⟨cs⟩, ty, pos, aft, g⟩ = true := by exact rfl) : J P n w0 R l0 K ((κ, ⟨some d, .makeFunc fn ⟨ars⟩ ⟨cs⟩, ty, pos, aft, g⟩) :: rest) f L := J.mkf hΓ hg k
end
section
variable {P : Program} {n : Nat} {w0 : World} {R : Heap} {l0 : List Oper} {K : Exit → Fr → List Heap → Prop} {f : Fr} {L : List Heap} {rest : List (Nat × Oper)} {κ : Nat}
variable {Γ : List (Nat × TI)} {d : Nat} {op : Op} {ty : TypeId} {pos : String} {aft : Array Edge} {g : Option (Nat × Bool)} {t u : TypeId} {x y : Operand} {a b : List UInt8}
theorem J.nT {xs ys : List Value} {fs : List Field} {s1 b1 : Nat} {z1 : Option Value} {r : Bool} (hΓ : Fits P Γ) (k : J P n w0 R l0 K rest (upd f d (.bool (!r))) L) (hg : wantB n f l0 ⟨some d, .binOp .neq t x y u, ty, pos, aft, g⟩ = true := by exact rfl) (hx : Cx.ev n f x = .agg ⟨xs⟩ := by exact rfl) (hy : Cx.ev n f y = .agg ⟨ys⟩ := by exact rfl) (ht : look Γ t = some ⟨.struct ⟨fs⟩, s1, z1, b1⟩ := by exact rfl) (h1 : P.eqGuardType P.depth t = false := by kernel_rfl) (h2 : P.stoodInHeld t = false := by kernel_rfl) (h3 : (fs.all fun f => f.name != "_") = true := by kernel_rfl) (hr : eqF Γ fs xs ys = some r := by exact rfl) : J P n w0 R l0 K ((κ, ⟨some d, .binOp .neq t x y u, ty, pos, aft, g⟩) :: rest) f L := J.neqT hΓ hg hx hy ht h1 h2 h3 hr k
end
section
variable {P : Program} {n : Nat} {w0 : World} {R : Heap} {l0 : List Oper} {K : Exit → Fr → List Heap → Prop} {f : Fr} {L : List Heap} {rest : List (Nat × Oper)} {κ : Nat}
variable {d : Nat} {op : Op} {ty : TypeId} {pos : String} {aft : Array Edge} {g : Option (Nat × Bool)}
theorem J.o (c : Nat) {dst : Option Tmp} (k : J P n w0 R l0 K ((κ, ⟨dst, op, ty, pos, aft, g⟩) :: rest) f L) (hn : opClass op = c := by exact rfl) : J P n w0 R l0 K ((κ, ⟨dst, op, ty, pos, aft, g⟩) :: rest) f L := k
theorem J.fc (c : Nat) {dst : Option Tmp} (k : J P n w0 R l0 K ((κ, ⟨dst, op, ty, pos, aft, g⟩) :: rest) f L) (hn : callOf op = some c := by exact rfl) : J P n w0 R l0 K ((κ, ⟨dst, op, ty, pos, aft, g⟩) :: rest) f L := k
theorem J.wt {dst : Option Tmp} (k : J P n w0 R l0 K ((κ, ⟨dst, op, ty, pos, aft, g⟩) :: rest) f L) (hg : wantB n f l0 ⟨dst, op, ty, pos, aft, g⟩ = true := by exact rfl) : J P n w0 R l0 K ((κ, ⟨dst, op, ty, pos, aft, g⟩) :: rest) f L := k
end
end Go.Cx
namespace Go.Cx
open Go Go.RowKit Go.ChangeShapes Go.WideShapes
set_option linter.unusedVariables false
set_option linter.unusedSimpArgs false
section
variable {P : Program} {w : World} {t e : TypeId}
structure Sl (α : Type) where
  a : Option Addr
  cap : Nat
  ts : List α
instance {α : Type} : Inhabited (Sl α) := ⟨⟨none, 0, []⟩⟩
end
theorem trodAll_below {A : Type} {ec : TypeId × Value → A} {P : Program} (hl : laidOutB P = true) {w w' : World} (hb : Below w.heap.size w w') : ∀ {ts : List TypeId} {vs : List Value} {ds : List (DataW A)} {ps : List MemPlace}, (ts.all fun t => P.readableRec t && decide (t < P.types.size)) = true →
    DataW.TrodAll ec P w 0 (fun _ => true) true ts vs ds ps → ∃ qs, DataW.TrodAll ec P w' 0 (fun b => decide (b < w.heap.size)) true ts vs ds qs
  | [], [], [], ps, _, _ => ⟨[], rfl⟩
  | t :: ts, v :: vs, d :: ds, ps, hr, h => by
    obtain ⟨p, q, h1, h2, _⟩ := h
    rw [List.all_cons, Bool.and_eq_true, Bool.and_eq_true] at hr
    obtain ⟨qs, h3⟩ := trodAll_below hl hb hr.2 h2
    have lt0 : ∀ x ∈ p, x.block < w.heap.size := by obtain ⟨m, hm⟩ := h1; exact DataW.trod_lt m _ _ _ hm
    exact ⟨p ++ qs, p, qs, Below.trod hl hr.1.1 (of_decide_eq_true hr.1.2) h1 hb lt0, h3, rfl⟩
  | [], _ :: _, _, _, _, h => h.elim
  | [], [], _ :: _, _, _, h => h.elim
  | _ :: _, [], _, _, _, h => h.elim
  | _ :: _, _ :: _, [], _, _, h => h.elim
theorem law_post {A : Type} {ec : TypeId × Value → A} {P : Program} {fn : Func} {s : ChangeSpec} {tb : TypeId} {W : World} {args : Array Value} {ds gs : List (DataW A)} {before : List MemPlace} {e : Ending} {W' : World} (hl : laidOutB P = true) (hb : P.underlying tb = some .bool) (hr : fn.resultTypes = #[tb])
    (hp : (fn.params.toList.all fun t => P.readableRec t && decide (t < P.types.size)) = true) (hs : s.vars = []) (hfn : ∀ ds : List (DataW A), ds.length = fn.params.toList.length → s.fn A ds = { results := [.lit (.bool true)], args := ds })
    (hW : DataW.Whole ec P fn.params.toList s.vars false W args.toList ds gs before) (he : e = .returned (.bool true)) (bel : Below W.heap.size W W') : ∃ v, e = .returned v ∧ s.post ec P fn false true false false W args v W' := by
  subst he
  have hW' := hW
  obtain ⟨p, q, hA, hV, rfl, hfz, hnd⟩ := hW
  rw [hs] at hV
  obtain ⟨rfl, rfl⟩ := trodVars_none hV
  obtain ⟨qs, hq⟩ := trodAll_below hl bel hp hA
  have hlen : ds.length = fn.params.toList.length := by
    have : ∀ (ts : List TypeId) (vs : List Value) (ds : List (DataW A)) (ps : List MemPlace), DataW.TrodAll ec P W 0 (fun _ => true) true ts vs ds ps → ds.length = ts.length := by
      intro ts
      induction ts with
      | nil => intro vs ds ps h; cases vs <;> cases ds <;> first | rfl | exact h.elim
      | cons t ts ih =>
        intro vs ds ps h
        cases vs with
        | nil => exact h.elim
        | cons v vs =>
          cases ds with
          | nil => exact h.elim
          | cons d ds =>
            obtain ⟨p, q, _, h2, _⟩ := h
            simp [ih vs ds q h2]
    exact this _ _ _ _ hA
  have e1 := hfn ds hlen
  refine ⟨_, rfl, ds, [], p ++ [], [], qs, [], hW', ?_, ?_, ?_, bel.frame _, fun h => by cases h⟩
  · rw [List.append_nil, e1, hr]; exact trodAll_mk1 (shut_bool hb _)
  · rw [List.append_nil, e1]; exact hq
  · rw [List.append_nil, e1, hs]; rfl
end Go.Cx
namespace Go.Proofs.YtdiciemlbhkilaaGreatDoor
open Go Go.Cx
set_option maxRecDepth 100000
def Γ : List (Nat × TI) := [
  (1, ⟨.func #[] #[] false, 1, (some .nilFunc), 8⟩),
  (2, ⟨.int .i64, 1, (some (.int .i64 0)), 8⟩),
  (3, ⟨.int .i64, 1, (some (.int .i64 0)), 8⟩),
  (4, ⟨.bool, 1, (some (.bool false)), 1⟩),
  (5, ⟨.int .u8, 1, (some (.int .u8 0)), 1⟩),
  (6, ⟨.int .u8, 1, (some (.int .u8 0)), 1⟩),
  (7, ⟨.struct #[⟨ "x", 2, 0, false, "", "runtime", 0⟩, ⟨ "y", 3, 1, false, "", "runtime", 8⟩, ⟨ "signed", 4, 2, false, "", "runtime", 16⟩, ⟨ "code", 6, 3, false, "", "runtime", 17⟩], 4, (some (.agg #[(.int .i64 0), (.int .i64 0), (.bool false), (.int .u8 0)])), 24⟩),
  (8, ⟨.struct #[⟨ "x", 2, 0, false, "", "runtime", 0⟩, ⟨ "y", 3, 1, false, "", "runtime", 8⟩, ⟨ "signed", 4, 2, false, "", "runtime", 16⟩, ⟨ "code", 6, 3, false, "", "runtime", 17⟩], 4, (some (.agg #[(.int .i64 0), (.int .i64 0), (.bool false), (.int .u8 0)])), 24⟩),
  (9, ⟨.string, 1, (some (.string ByteArray.empty)), 16⟩),
  (10, ⟨.string, 1, (some (.string ByteArray.empty)), 16⟩),
  (11, ⟨.string, 1, (some (.string ByteArray.empty)), 16⟩),
  (12, ⟨.int .u64, 1, (some (.int .u64 0)), 8⟩),
  (13, ⟨.struct #[⟨ "msg", 9, 0, false, "", "runtime", 0⟩, ⟨ "addr", 12, 1, false, "", "runtime", 16⟩], 2, (some (.agg #[(.string ByteArray.empty), (.int .u64 0)])), 24⟩),
  (14, ⟨.struct #[⟨ "msg", 9, 0, false, "", "runtime", 0⟩, ⟨ "addr", 12, 1, false, "", "runtime", 16⟩], 2, (some (.agg #[(.string ByteArray.empty), (.int .u64 0)])), 24⟩),
  (15, ⟨.pointer 224, 1, (some (.pointer none)), 8⟩),
  (16, ⟨.pointer 227, 1, (some (.pointer none)), 8⟩),
  (17, ⟨.pointer 234, 1, (some (.pointer none)), 8⟩),
  (18, ⟨.struct #[⟨ "typ", 17, 0, false, "", "internal/runtime/maps", 0⟩], 1, (some (.agg #[(.pointer none)])), 8⟩),
  (19, ⟨.struct #[⟨ "typ", 17, 0, false, "", "internal/runtime/maps", 0⟩], 1, (some (.agg #[(.pointer none)])), 8⟩),
  (21, ⟨.int .i32, 1, (some (.int .i32 0)), 4⟩),
  (22, ⟨.slice 44, 1, (some (.slice none 0 0)), 24⟩),
  (23, ⟨.slice 44, 1, (some (.slice none 0 0)), 24⟩),
  (24, ⟨.int .i64, 1, (some (.int .i64 0)), 8⟩),
  (25, ⟨.func #[] #[4] false, 1, (some .nilFunc), 8⟩),
  (26, ⟨.func #[27, 3] #[24] false, 1, (some .nilFunc), 8⟩),
  (27, ⟨.slice 75, 1, (some (.slice none 0 0)), 24⟩),
  (28, ⟨.func #[23] #[27] false, 1, (some .nilFunc), 8⟩),
  (29, ⟨.slice 82, 1, (some (.slice none 0 0)), 24⟩),
  (30, ⟨.struct #[⟨ "N", 3, 0, false, "", "", 0⟩, ⟨ "L", 29, 1, false, "", "", 8⟩], 2, (some (.agg #[(.int .i64 0), (.slice none 0 0)])), 32⟩),
  (31, ⟨.struct #[⟨ "N", 3, 0, false, "", "", 0⟩, ⟨ "L", 29, 1, false, "", "", 8⟩], 2, (some (.agg #[(.int .i64 0), (.slice none 0 0)])), 32⟩),
  (33, ⟨.func #[23, 3] #[31, 24] false, 1, (some .nilFunc), 8⟩),
  (34, ⟨.func #[31] #[4] false, 1, (some .nilFunc), 8⟩),
  (35, ⟨.slice 40, 1, (some (.slice none 0 0)), 24⟩),
  (36, ⟨.func #[3] #[35] false, 1, (some .nilFunc), 8⟩),
  (37, ⟨.func #[31, 40] #[4] false, 1, (some .nilFunc), 8⟩),
  (38, ⟨.int .u64, 1, (some (.int .u64 0)), 8⟩),
  (39, ⟨.array 2 38, 2, (some (.agg #[(.int .u64 0), (.int .u64 0)])), 16⟩),
  (40, ⟨.array 2 38, 2, (some (.agg #[(.int .u64 0), (.int .u64 0)])), 16⟩),
  (41, ⟨.func #[27, 40] #[4] false, 1, (some .nilFunc), 8⟩),
  (42, ⟨.func #[23, 3] #[4] false, 1, (some .nilFunc), 8⟩),
  (43, ⟨.struct #[⟨ "Var", 3, 0, false, "", "", 0⟩, ⟨ "No", 3, 1, false, "", "", 8⟩, ⟨ "Yes", 3, 2, false, "", "", 16⟩, ⟨ "Class", 4, 3, false, "", "", 24⟩], 4, (some (.agg #[(.int .i64 0), (.int .i64 0), (.int .i64 0), (.bool false)])), 32⟩),
  (44, ⟨.struct #[⟨ "Var", 3, 0, false, "", "", 0⟩, ⟨ "No", 3, 1, false, "", "", 8⟩, ⟨ "Yes", 3, 2, false, "", "", 16⟩, ⟨ "Class", 4, 3, false, "", "", 24⟩], 4, (some (.agg #[(.int .i64 0), (.int .i64 0), (.int .i64 0), (.bool false)])), 32⟩),
  (45, ⟨.func #[40, 40] #[40] false, 1, (some .nilFunc), 8⟩),
  (46, ⟨.func #[3] #[40] false, 1, (some .nilFunc), 8⟩),
  (47, ⟨.func #[40] #[3] false, 1, (some .nilFunc), 8⟩),
  (48, ⟨.slice 101, 1, (some (.slice none 0 0)), 24⟩),
  (49, ⟨.struct #[⟨ "N", 3, 0, false, "", "", 0⟩, ⟨ "L", 48, 1, false, "", "", 8⟩], 2, (some (.agg #[(.int .i64 0), (.slice none 0 0)])), 32⟩),
  (50, ⟨.struct #[⟨ "N", 3, 0, false, "", "", 0⟩, ⟨ "L", 48, 1, false, "", "", 8⟩], 2, (some (.agg #[(.int .i64 0), (.slice none 0 0)])), 32⟩),
  (52, ⟨.func #[53, 3] #[50, 24] false, 1, (some .nilFunc), 8⟩),
  (53, ⟨.slice 23, 1, (some (.slice none 0 0)), 24⟩),
  (54, ⟨.func #[23, 3] #[24] false, 1, (some .nilFunc), 8⟩),
  (55, ⟨.func #[23, 40] #[4] false, 1, (some .nilFunc), 8⟩),
  (56, ⟨.func #[50, 40] #[4] false, 1, (some .nilFunc), 8⟩),
  (57, ⟨.func #[5, 40] #[4] false, 1, (some .nilFunc), 8⟩),
  (58, ⟨.struct #[⟨ "b", 9, 0, false, "", "census/nat", 0⟩], 1, (some (.agg #[(.string ByteArray.empty)])), 16⟩),
  (59, ⟨.struct #[⟨ "b", 9, 0, false, "", "census/nat", 0⟩], 1, (some (.agg #[(.string ByteArray.empty)])), 16⟩),
  (61, ⟨.func #[31] #[59, 24] false, 1, (some .nilFunc), 8⟩),
  (63, ⟨.func #[] #[38, 4] false, 1, (some .nilFunc), 8⟩),
  (64, ⟨.func #[27, 3, 3] #[3] false, 1, (some .nilFunc), 8⟩),
  (65, ⟨.slice 9, 1, (some (.slice none 0 0)), 24⟩),
  (67, ⟨.func #[9] #[23, 24] false, 1, (some .nilFunc), 8⟩),
  (68, ⟨.func #[] #[23] false, 1, (some .nilFunc), 8⟩),
  (69, ⟨.func #[53, 40] #[4] false, 1, (some .nilFunc), 8⟩),
  (70, ⟨.func #[] #[9] false, 1, (some .nilFunc), 8⟩),
  (72, ⟨.func #[23] #[9, 24] false, 1, (some .nilFunc), 8⟩),
  (73, ⟨.func #[27, 27] #[4] false, 1, (some .nilFunc), 8⟩),
  (74, ⟨.func #[27, 3] #[4] false, 1, (some .nilFunc), 8⟩),
  (75, ⟨.struct #[⟨ "Var", 3, 0, false, "", "", 0⟩, ⟨ "No", 3, 1, false, "", "", 8⟩, ⟨ "Yes", 3, 2, false, "", "", 16⟩, ⟨ "Class", 4, 3, false, "", "", 24⟩], 4, (some (.agg #[(.int .i64 0), (.int .i64 0), (.int .i64 0), (.bool false)])), 32⟩),
  (76, ⟨.func #[27, 3, 3] #[4] false, 1, (some .nilFunc), 8⟩),
  (77, ⟨.pointer 138, 1, (some (.pointer none)), 8⟩),
  (79, ⟨.func #[3] #[77, 24] false, 1, (some .nilFunc), 8⟩),
  (80, ⟨.slice 3, 1, (some (.slice none 0 0)), 24⟩),
  (81, ⟨.struct #[⟨ "Kind", 3, 0, false, "", "", 0⟩, ⟨ "Lit", 3, 1, false, "", "", 8⟩, ⟨ "In", 80, 2, false, "", "", 16⟩], 3, (some (.agg #[(.int .i64 0), (.int .i64 0), (.slice none 0 0)])), 40⟩),
  (82, ⟨.struct #[⟨ "Kind", 3, 0, false, "", "", 0⟩, ⟨ "Lit", 3, 1, false, "", "", 8⟩, ⟨ "In", 80, 2, false, "", "", 16⟩], 3, (some (.agg #[(.int .i64 0), (.int .i64 0), (.slice none 0 0)])), 40⟩),
  (84, ⟨.func #[82] #[3, 24] false, 1, (some .nilFunc), 8⟩),
  (85, ⟨.func #[82] #[3] false, 1, (some .nilFunc), 8⟩),
  (86, ⟨.func #[23, 87, 88] #[3] false, 1, (some .nilFunc), 8⟩),
  (87, ⟨.func #[4] #[3] false, 1, (some .nilFunc), 8⟩),
  (88, ⟨.func #[3, 3, 3] #[3] false, 1, (some .nilFunc), 8⟩),
  (89, ⟨.func #[3] #[31, 24] false, 1, (some .nilFunc), 8⟩),
  (90, ⟨.func #[82, 3, 3] #[4] false, 1, (some .nilFunc), 8⟩),
  (91, ⟨.func #[31] #[35] false, 1, (some .nilFunc), 8⟩),
  (92, ⟨.func #[40, 40] #[4] false, 1, (some .nilFunc), 8⟩),
  (93, ⟨.func #[31, 3, 3] #[4] false, 1, (some .nilFunc), 8⟩),
  (94, ⟨.func #[40, 3] #[40] false, 1, (some .nilFunc), 8⟩),
  (95, ⟨.slice 4, 1, (some (.slice none 0 0)), 24⟩),
  (96, ⟨.func #[31, 40] #[95] false, 1, (some .nilFunc), 8⟩),
  (97, ⟨.func #[40, 3] #[4] false, 1, (some .nilFunc), 8⟩),
  (98, ⟨.func #[106] #[] false, 1, (some .nilFunc), 8⟩),
  (99, ⟨.func #[106] #[] false, 1, (some .nilFunc), 8⟩),
  (100, ⟨.func #[40] #[99] false, 1, (some .nilFunc), 8⟩),
  (101, ⟨.struct #[⟨ "Kind", 3, 0, false, "", "", 0⟩, ⟨ "Lit", 3, 1, false, "", "", 8⟩, ⟨ "In", 80, 2, false, "", "", 16⟩], 3, (some (.agg #[(.int .i64 0), (.int .i64 0), (.slice none 0 0)])), 40⟩),
  (102, ⟨.func #[101] #[3] false, 1, (some .nilFunc), 8⟩),
  (103, ⟨.func #[44, 3, 3, 3] #[4] false, 1, (some .nilFunc), 8⟩),
  (104, ⟨.func #[31] #[24] false, 1, (some .nilFunc), 8⟩),
  (105, ⟨.func #[80, 106] #[4] false, 1, (some .nilFunc), 8⟩),
  (106, ⟨.func #[3] #[4] false, 1, (some .nilFunc), 8⟩),
  (107, ⟨.func #[50] #[24] false, 1, (some .nilFunc), 8⟩),
  (108, ⟨.func #[101, 40, 95] #[4] false, 1, (some .nilFunc), 8⟩),
  (109, ⟨.func #[31, 114] #[59] false, 1, (some .nilFunc), 8⟩),
  (110, ⟨.func #[] #[59] false, 1, (some .nilFunc), 8⟩),
  (111, ⟨.func #[59, 59] #[59] false, 1, (some .nilFunc), 8⟩),
  (112, ⟨.func #[3] #[59] false, 1, (some .nilFunc), 8⟩),
  (113, ⟨.struct #[⟨ "zero", 110, 0, false, "", "census/count", 0⟩, ⟨ "one", 110, 1, false, "", "census/count", 8⟩, ⟨ "add", 111, 2, false, "", "census/count", 16⟩, ⟨ "mul", 111, 3, false, "", "census/count", 24⟩, ⟨ "lit", 112, 4, false, "", "census/count", 32⟩, ⟨ "both", 112, 5, false, "", "census/count", 40⟩], 6, (some (.agg #[.nilFunc, .nilFunc, .nilFunc, .nilFunc, .nilFunc, .nilFunc])), 48⟩),
  (114, ⟨.struct #[⟨ "zero", 110, 0, false, "", "census/count", 0⟩, ⟨ "one", 110, 1, false, "", "census/count", 8⟩, ⟨ "add", 111, 2, false, "", "census/count", 16⟩, ⟨ "mul", 111, 3, false, "", "census/count", 24⟩, ⟨ "lit", 112, 4, false, "", "census/count", 32⟩, ⟨ "both", 112, 5, false, "", "census/count", 40⟩], 6, (some (.agg #[.nilFunc, .nilFunc, .nilFunc, .nilFunc, .nilFunc, .nilFunc])), 48⟩),
  (115, ⟨.func #[3] #[114] false, 1, (some .nilFunc), 8⟩),
  (116, ⟨.int .u64, 1, (some (.int .u64 0)), 8⟩),
  (117, ⟨.pointer 119, 1, (some (.pointer none)), 8⟩),
  (118, ⟨.struct #[⟨ "tree", 23, 0, false, "", "census/tree", 0⟩, ⟨ "rest", 9, 1, false, "", "census/tree", 24⟩], 2, (some (.agg #[(.slice none 0 0), (.string ByteArray.empty)])), 40⟩),
  (119, ⟨.struct #[⟨ "tree", 23, 0, false, "", "census/tree", 0⟩, ⟨ "rest", 9, 1, false, "", "census/tree", 24⟩], 2, (some (.agg #[(.slice none 0 0), (.string ByteArray.empty)])), 40⟩),
  (120, ⟨.func #[23] #[] false, 1, (some .nilFunc), 8⟩),
  (121, ⟨.slice 124, 1, (some (.slice none 0 0)), 24⟩),
  (122, ⟨.func #[] #[121] false, 1, (some .nilFunc), 8⟩),
  (123, ⟨.slice 5, 1, (some (.slice none 0 0)), 24⟩),
  (124, ⟨.int .u32, 1, (some (.int .u32 0)), 4⟩),
  (125, ⟨.func #[121, 124] #[124] false, 1, (some .nilFunc), 8⟩),
  (126, ⟨.pointer 128, 1, (some (.pointer none)), 8⟩),
  (127, ⟨.struct #[⟨ "addr", 126, 0, false, "", "strings", 0⟩, ⟨ "buf", 123, 1, false, "", "strings", 8⟩], 2, (some (.agg #[(.pointer none), (.slice none 0 0)])), 32⟩),
  (128, ⟨.struct #[⟨ "addr", 126, 0, false, "", "strings", 0⟩, ⟨ "buf", 123, 1, false, "", "strings", 8⟩], 2, (some (.agg #[(.pointer none), (.slice none 0 0)])), 32⟩),
  (131, ⟨.func #[5] #[130] false, 1, (some .nilFunc), 8⟩),
  (132, ⟨.func #[23, 133, 135] #[9] false, 1, (some .nilFunc), 8⟩),
  (133, ⟨.func #[4] #[9] false, 1, (some .nilFunc), 8⟩),
  (134, ⟨.func #[3] #[9] false, 1, (some .nilFunc), 8⟩),
  (135, ⟨.func #[3, 9, 9] #[9] false, 1, (some .nilFunc), 8⟩),
  (136, ⟨.map 9 3, 1, (some (.map none)), 8⟩),
  (137, ⟨.struct #[⟨ "n", 3, 0, false, "", "census/node", 0⟩, ⟨ "l", 29, 1, false, "", "census/node", 8⟩, ⟨ "made", 136, 2, false, "", "census/node", 32⟩], 3, (some (.agg #[(.int .i64 0), (.slice none 0 0), (.map none)])), 40⟩),
  (138, ⟨.struct #[⟨ "n", 3, 0, false, "", "census/node", 0⟩, ⟨ "l", 29, 1, false, "", "census/node", 8⟩, ⟨ "made", 136, 2, false, "", "census/node", 32⟩], 3, (some (.agg #[(.int .i64 0), (.slice none 0 0), (.map none)])), 40⟩),
  (140, ⟨.func #[80, 3, 3, 3] #[80, 4] false, 1, (some .nilFunc), 8⟩),
  (141, ⟨.func #[80] #[80] false, 1, (some .nilFunc), 8⟩),
  (142, ⟨.func #[3, 3] #[4] false, 1, (some .nilFunc), 8⟩),
  (143, ⟨.func #[80] #[40] false, 1, (some .nilFunc), 8⟩),
  (144, ⟨.func #[40] #[80] false, 1, (some .nilFunc), 8⟩),
  (146, ⟨.func #[3] #[3, 38, 4] false, 1, (some .nilFunc), 8⟩),
  (147, ⟨.func #[38] #[3] false, 1, (some .nilFunc), 8⟩),
  (148, ⟨.func #[3] #[3] false, 1, (some .nilFunc), 8⟩),
  (149, ⟨.func #[80, 106] #[3] false, 1, (some .nilFunc), 8⟩),
  (150, ⟨.func #[50] #[3] false, 1, (some .nilFunc), 8⟩),
  (151, ⟨.func #[50, 3] #[4] false, 1, (some .nilFunc), 8⟩),
  (152, ⟨.slice 59, 1, (some (.slice none 0 0)), 24⟩),
  (153, ⟨.func #[3, 40] #[59] false, 1, (some .nilFunc), 8⟩),
  (154, ⟨.func #[38] #[59] false, 1, (some .nilFunc), 8⟩),
  (155, ⟨.func #[5] #[4] false, 1, (some .nilFunc), 8⟩),
  (157, ⟨.func #[] #[3, 4] false, 1, (some .nilFunc), 8⟩),
  (158, ⟨.pointer 5, 1, (some (.pointer none)), 8⟩),
  (159, ⟨.func #[82] #[9] false, 1, (some .nilFunc), 8⟩),
  (160, ⟨.map 3 4, 1, (some (.map none)), 8⟩),
  (161, ⟨.func #[80, 3] #[4] false, 1, (some .nilFunc), 8⟩),
  (162, ⟨.func #[3] #[] false, 1, (some .nilFunc), 8⟩),
  (163, ⟨.func #[80] #[] false, 1, (some .nilFunc), 8⟩),
  (164, ⟨.func #[] #[95] false, 1, (some .nilFunc), 8⟩),
  (165, ⟨.func #[95] #[40] false, 1, (some .nilFunc), 8⟩),
  (166, ⟨.array 64 5, 64, (some (.agg #[(.int .u8 0), (.int .u8 0), (.int .u8 0), (.int .u8 0), (.int .u8 0), (.int .u8 0), (.int .u8 0), (.int .u8 0), (.int .u8 0), (.int .u8 0), (.int .u8 0), (.int .u8 0), (.int .u8 0), (.int .u8 0), (.int .u8 0), (.int .u8 0), (.int .u8 0), (.int .u8 0), (.int .u8 0), (.int .u8 0), (.int .u8 0), (.int .u8 0), (.int .u8 0), (.int .u8 0), (.int .u8 0), (.int .u8 0), (.int .u8 0), (.int .u8 0), (.int .u8 0), (.int .u8 0), (.int .u8 0), (.int .u8 0), (.int .u8 0), (.int .u8 0), (.int .u8 0), (.int .u8 0), (.int .u8 0), (.int .u8 0), (.int .u8 0), (.int .u8 0), (.int .u8 0), (.int .u8 0), (.int .u8 0), (.int .u8 0), (.int .u8 0), (.int .u8 0), (.int .u8 0), (.int .u8 0), (.int .u8 0), (.int .u8 0), (.int .u8 0), (.int .u8 0), (.int .u8 0), (.int .u8 0), (.int .u8 0), (.int .u8 0), (.int .u8 0), (.int .u8 0), (.int .u8 0), (.int .u8 0), (.int .u8 0), (.int .u8 0), (.int .u8 0), (.int .u8 0)])), 64⟩),
  (167, ⟨.func #[] #[3] false, 1, (some .nilFunc), 8⟩),
  (168, ⟨.func #[80] #[40] true, 1, (some .nilFunc), 8⟩),
  (169, ⟨.func #[99] #[80] false, 1, (some .nilFunc), 8⟩),
  (170, ⟨.func #[121] #[59] false, 1, (some .nilFunc), 8⟩),
  (172, ⟨.func #[9] #[3, 130] false, 1, (some .nilFunc), 8⟩),
  (174, ⟨.func #[173] #[173] false, 1, (some .nilFunc), 8⟩),
  (175, ⟨.func #[2, 3] #[9] false, 1, (some .nilFunc), 8⟩),
  (176, ⟨.func #[80, 3] #[3] false, 1, (some .nilFunc), 8⟩),
  (177, ⟨.func #[80, 3, 3, 3] #[] false, 1, (some .nilFunc), 8⟩),
  (178, ⟨.func #[116] #[3] false, 1, (some .nilFunc), 8⟩),
  (179, ⟨.func #[5] #[3] false, 1, (some .nilFunc), 8⟩),
  (180, ⟨.func #[80, 99] #[80] false, 1, (some .nilFunc), 8⟩),
  (181, ⟨.func #[9, 9, 3, 3, 130] #[130] false, 1, (some .nilFunc), 8⟩),
  (182, ⟨.array 24 5, 24, (some (.agg #[(.int .u8 0), (.int .u8 0), (.int .u8 0), (.int .u8 0), (.int .u8 0), (.int .u8 0), (.int .u8 0), (.int .u8 0), (.int .u8 0), (.int .u8 0), (.int .u8 0), (.int .u8 0), (.int .u8 0), (.int .u8 0), (.int .u8 0), (.int .u8 0), (.int .u8 0), (.int .u8 0), (.int .u8 0), (.int .u8 0), (.int .u8 0), (.int .u8 0), (.int .u8 0), (.int .u8 0)])), 24⟩),
  (183, ⟨.func #[123, 38] #[] false, 1, (some .nilFunc), 8⟩),
  (185, ⟨.func #[123, 38, 3, 4, 4] #[123, 9] false, 1, (some .nilFunc), 8⟩),
  (186, ⟨.func #[80, 3, 3] #[] false, 1, (some .nilFunc), 8⟩),
  (187, ⟨.int .i64, 1, (some (.int .i64 0)), 8⟩),
  (189, ⟨.func #[80, 3, 3] #[3, 187] false, 1, (some .nilFunc), 8⟩),
  (190, ⟨.func #[80, 3, 3] #[4] false, 1, (some .nilFunc), 8⟩),
  (191, ⟨.func #[80, 3, 3, 3] #[3] false, 1, (some .nilFunc), 8⟩),
  (192, ⟨.func #[80, 3, 3, 3] #[3, 4] false, 1, (some .nilFunc), 8⟩),
  (193, ⟨.func #[124] #[3] false, 1, (some .nilFunc), 8⟩),
  (194, ⟨.int .i64, 1, (some (.int .i64 0)), 8⟩),
  (196, ⟨.func #[9, 3, 3] #[2, 130] false, 1, (some .nilFunc), 8⟩),
  (197, ⟨.pointer 212, 1, (some (.pointer none)), 8⟩),
  (198, ⟨.func #[9, 9] #[197] false, 1, (some .nilFunc), 8⟩),
  (199, ⟨.func #[9, 9, 3] #[197] false, 1, (some .nilFunc), 8⟩),
  (200, ⟨.array 20 38, 20, (some (.agg #[(.int .u64 0), (.int .u64 0), (.int .u64 0), (.int .u64 0), (.int .u64 0), (.int .u64 0), (.int .u64 0), (.int .u64 0), (.int .u64 0), (.int .u64 0), (.int .u64 0), (.int .u64 0), (.int .u64 0), (.int .u64 0), (.int .u64 0), (.int .u64 0), (.int .u64 0), (.int .u64 0), (.int .u64 0), (.int .u64 0)])), 160⟩),
  (201, ⟨.array 65 5, 65, (some (.agg #[(.int .u8 0), (.int .u8 0), (.int .u8 0), (.int .u8 0), (.int .u8 0), (.int .u8 0), (.int .u8 0), (.int .u8 0), (.int .u8 0), (.int .u8 0), (.int .u8 0), (.int .u8 0), (.int .u8 0), (.int .u8 0), (.int .u8 0), (.int .u8 0), (.int .u8 0), (.int .u8 0), (.int .u8 0), (.int .u8 0), (.int .u8 0), (.int .u8 0), (.int .u8 0), (.int .u8 0), (.int .u8 0), (.int .u8 0), (.int .u8 0), (.int .u8 0), (.int .u8 0), (.int .u8 0), (.int .u8 0), (.int .u8 0), (.int .u8 0), (.int .u8 0), (.int .u8 0), (.int .u8 0), (.int .u8 0), (.int .u8 0), (.int .u8 0), (.int .u8 0), (.int .u8 0), (.int .u8 0), (.int .u8 0), (.int .u8 0), (.int .u8 0), (.int .u8 0), (.int .u8 0), (.int .u8 0), (.int .u8 0), (.int .u8 0), (.int .u8 0), (.int .u8 0), (.int .u8 0), (.int .u8 0), (.int .u8 0), (.int .u8 0), (.int .u8 0), (.int .u8 0), (.int .u8 0), (.int .u8 0), (.int .u8 0), (.int .u8 0), (.int .u8 0), (.int .u8 0), (.int .u8 0)])), 65⟩),
  (202, ⟨.int .u64, 1, (some (.int .u64 0)), 8⟩),
  (203, ⟨.func #[3] #[116] false, 1, (some .nilFunc), 8⟩),
  (204, ⟨.func #[] #[38] false, 1, (some .nilFunc), 8⟩),
  (205, ⟨.func #[80, 3, 206] #[3] false, 1, (some .nilFunc), 8⟩),
  (206, ⟨.pointer 3, 1, (some (.pointer none)), 8⟩),
  (207, ⟨.func #[80, 3, 3, 3, 206] #[3] false, 1, (some .nilFunc), 8⟩),
  (209, ⟨.func #[9, 3, 3] #[38, 130] false, 1, (some .nilFunc), 8⟩),
  (210, ⟨.func #[9] #[9] false, 1, (some .nilFunc), 8⟩),
  (211, ⟨.struct #[⟨ "Func", 9, 0, false, "", "", 0⟩, ⟨ "Num", 9, 1, false, "", "", 16⟩, ⟨ "Err", 130, 2, false, "", "", 32⟩], 3, (some (.agg #[(.string ByteArray.empty), (.string ByteArray.empty), .nilIface])), 48⟩),
  (212, ⟨.struct #[⟨ "Func", 9, 0, false, "", "", 0⟩, ⟨ "Num", 9, 1, false, "", "", 16⟩, ⟨ "Err", 130, 2, false, "", "", 32⟩], 3, (some (.agg #[(.string ByteArray.empty), (.string ByteArray.empty), .nilIface])), 48⟩),
  (213, ⟨.func #[9] #[130] false, 1, (some .nilFunc), 8⟩),
  (214, ⟨.pointer 202, 1, (some (.pointer none)), 8⟩),
  (216, ⟨.func #[80, 3, 3, 206] #[3, 3] false, 1, (some .nilFunc), 8⟩),
  (217, ⟨.func #[5] #[5] false, 1, (some .nilFunc), 8⟩),
  (218, ⟨.func #[9] #[4] false, 1, (some .nilFunc), 8⟩),
  (219, ⟨.pointer 221, 1, (some (.pointer none)), 8⟩),
  (220, ⟨.struct #[⟨ "s", 9, 0, false, "", "errors", 0⟩], 1, (some (.agg #[(.string ByteArray.empty)])), 16⟩),
  (221, ⟨.struct #[⟨ "s", 9, 0, false, "", "errors", 0⟩], 1, (some (.agg #[(.string ByteArray.empty)])), 16⟩),
  (222, ⟨.array 32 5, 32, (some (.agg #[(.int .u8 0), (.int .u8 0), (.int .u8 0), (.int .u8 0), (.int .u8 0), (.int .u8 0), (.int .u8 0), (.int .u8 0), (.int .u8 0), (.int .u8 0), (.int .u8 0), (.int .u8 0), (.int .u8 0), (.int .u8 0), (.int .u8 0), (.int .u8 0), (.int .u8 0), (.int .u8 0), (.int .u8 0), (.int .u8 0), (.int .u8 0), (.int .u8 0), (.int .u8 0), (.int .u8 0), (.int .u8 0), (.int .u8 0), (.int .u8 0), (.int .u8 0), (.int .u8 0), (.int .u8 0), (.int .u8 0), (.int .u8 0)])), 32⟩),
  (223, ⟨.struct #[⟨ "_interface", 17, 0, false, "", "runtime", 0⟩, ⟨ "concrete", 17, 1, false, "", "runtime", 8⟩, ⟨ "asserted", 17, 2, false, "", "runtime", 16⟩, ⟨ "missingMethod", 9, 3, false, "", "runtime", 24⟩], 4, (some (.agg #[(.pointer none), (.pointer none), (.pointer none), (.string ByteArray.empty)])), 40⟩),
  (224, ⟨.struct #[⟨ "_interface", 17, 0, false, "", "runtime", 0⟩, ⟨ "concrete", 17, 1, false, "", "runtime", 8⟩, ⟨ "asserted", 17, 2, false, "", "runtime", 16⟩, ⟨ "missingMethod", 9, 3, false, "", "runtime", 24⟩], 4, (some (.agg #[(.pointer none), (.pointer none), (.pointer none), (.string ByteArray.empty)])), 40⟩),
  (225, ⟨.array 0 16, 0, (some (.agg #[])), 0⟩),
  (226, ⟨.struct #[⟨ "_", 225, 0, false, "", "runtime", 0⟩], 0, (some (.agg #[])), 0⟩),
  (227, ⟨.struct #[⟨ "_", 225, 0, false, "", "runtime", 0⟩], 0, (some (.agg #[])), 0⟩),
  (228, ⟨.int .u8, 1, (some (.int .u8 0)), 1⟩),
  (229, ⟨.int .u8, 1, (some (.int .u8 0)), 1⟩),
  (230, ⟨.func #[173, 173] #[4] false, 1, (some .nilFunc), 8⟩),
  (231, ⟨.int .i32, 1, (some (.int .i32 0)), 4⟩),
  (232, ⟨.int .i32, 1, (some (.int .i32 0)), 4⟩),
  (233, ⟨.struct #[⟨ "Size_", 12, 0, false, "", "", 0⟩, ⟨ "PtrBytes", 12, 1, false, "", "", 8⟩, ⟨ "Hash", 124, 2, false, "", "", 16⟩, ⟨ "TFlag", 228, 3, false, "", "", 20⟩, ⟨ "Align_", 5, 4, false, "", "", 21⟩, ⟨ "FieldAlign_", 5, 5, false, "", "", 22⟩, ⟨ "Kind_", 229, 6, false, "", "", 23⟩, ⟨ "Equal", 230, 7, false, "", "", 24⟩, ⟨ "GCData", 158, 8, false, "", "", 32⟩, ⟨ "Str", 231, 9, false, "", "", 40⟩, ⟨ "PtrToThis", 232, 10, false, "", "", 44⟩], 11, (some (.agg #[(.int .u64 0), (.int .u64 0), (.int .u32 0), (.int .u8 0), (.int .u8 0), (.int .u8 0), (.int .u8 0), .nilFunc, (.pointer none), (.int .i32 0), (.int .i32 0)])), 48⟩),
  (234, ⟨.struct #[⟨ "Size_", 12, 0, false, "", "", 0⟩, ⟨ "PtrBytes", 12, 1, false, "", "", 8⟩, ⟨ "Hash", 124, 2, false, "", "", 16⟩, ⟨ "TFlag", 228, 3, false, "", "", 20⟩, ⟨ "Align_", 5, 4, false, "", "", 21⟩, ⟨ "FieldAlign_", 5, 5, false, "", "", 22⟩, ⟨ "Kind_", 229, 6, false, "", "", 23⟩, ⟨ "Equal", 230, 7, false, "", "", 24⟩, ⟨ "GCData", 158, 8, false, "", "", 32⟩, ⟨ "Str", 231, 9, false, "", "", 40⟩, ⟨ "PtrToThis", 232, 10, false, "", "", 44⟩], 11, (some (.agg #[(.int .u64 0), (.int .u64 0), (.int .u32 0), (.int .u8 0), (.int .u8 0), (.int .u8 0), (.int .u8 0), .nilFunc, (.pointer none), (.int .i32 0), (.int .i32 0)])), 48⟩)
]
theorem hΓ : Fits Tryz.prog Γ :=
  .cons (
  .cons (
  .cons (
  .cons (
  .cons (
  .cons (
  .cons (
  .cons (
  .cons (
  .cons (
  .cons (
  .cons (
  .cons (
  .cons (
  .cons (
  .cons (
  .cons (
  .cons (
  .cons (
  .cons (
  .cons (
  .cons (
  .cons (
  .cons (
  .cons (
  .cons (
  .cons (
  .cons (
  .cons (
  .cons (
  .cons (
  .cons (
  .cons (
  .cons (
  .cons (
  .cons (
  .cons (
  .cons (
  .cons (
  .cons (
  .cons (
  .cons (
  .cons (
  .cons (
  .cons (
  .cons (
  .cons (
  .cons (
  .cons (
  .cons (
  .cons (
  .cons (
  .cons (
  .cons (
  .cons (
  .cons (
  .cons (
  .cons (
  .cons (
  .cons (
  .cons (
  .cons (
  .cons (
  .cons (
  .cons (
  .cons (
  .cons (
  .cons (
  .cons (
  .cons (
  .cons (
  .cons (
  .cons (
  .cons (
  .cons (
  .cons (
  .cons (
  .cons (
  .cons (
  .cons (
  .cons (
  .cons (
  .cons (
  .cons (
  .cons (
  .cons (
  .cons (
  .cons (
  .cons (
  .cons (
  .cons (
  .cons (
  .cons (
  .cons (
  .cons (
  .cons (
  .cons (
  .cons (
  .cons (
  .cons (
  .cons (
  .cons (
  .cons (
  .cons (
  .cons (
  .cons (
  .cons (
  .cons (
  .cons (
  .cons (
  .cons (
  .cons (
  .cons (
  .cons (
  .cons (
  .cons (
  .cons (
  .cons (
  .cons (
  .cons (
  .cons (
  .cons (
  .cons (
  .cons (
  .cons (
  .cons (
  .cons (
  .cons (
  .cons (
  .cons (
  .cons (
  .cons (
  .cons (
  .cons (
  .cons (
  .cons (
  .cons (
  .cons (
  .cons (
  .cons (
  .cons (
  .cons (
  .cons (
  .cons (
  .cons (
  .cons (
  .cons (
  .cons (
  .cons (
  .cons (
  .cons (
  .cons (
  .cons (
  .cons (
  .cons (
  .cons (
  .cons (
  .cons (
  .cons (
  .cons (
  .cons (
  .cons (
  .cons (
  .cons (
  .cons (
  .cons (
  .cons (
  .cons (
  .cons (
  .cons (
  .cons (
  .cons (
  .cons (
  .cons (
  .cons (
  .cons (
  .cons (
  .cons (
  .cons (
  .cons (
  .cons (
  .cons (
  .cons (
  .cons (
  .cons (
  .cons (
  .cons (
  .cons (
  .cons (
  .cons (
  .cons (
  .cons (
  .cons (
  .cons (
  .cons (
  .cons (
  .cons (
  .cons (
  .cons (
  .cons (
  .cons (
  .cons (
  .cons (
  .cons (
  .cons (
  .cons (
  .cons (
  .cons (
  .cons (
  .cons (
  .cons (
  .cons (
  .cons (
  Fits.nil _
  ) (by kernel_rfl) (by kernel_rfl)
  ) (by kernel_rfl) (by kernel_rfl)
  ) (by kernel_rfl) (by kernel_rfl)
  ) (by kernel_rfl) (by kernel_rfl)
  ) (by kernel_rfl) (by kernel_rfl)
  ) (by kernel_rfl) (by kernel_rfl)
  ) (by kernel_rfl) (by kernel_rfl)
  ) (by kernel_rfl) (by kernel_rfl)
  ) (by kernel_rfl) (by kernel_rfl)
  ) (by kernel_rfl) (by kernel_rfl)
  ) (by kernel_rfl) (by kernel_rfl)
  ) (by kernel_rfl) (by kernel_rfl)
  ) (by kernel_rfl) (by kernel_rfl)
  ) (by kernel_rfl) (by kernel_rfl)
  ) (by kernel_rfl) (by kernel_rfl)
  ) (by kernel_rfl) (by kernel_rfl)
  ) (by kernel_rfl) (by kernel_rfl)
  ) (by kernel_rfl) (by kernel_rfl)
  ) (by kernel_rfl) (by kernel_rfl)
  ) (by kernel_rfl) (by kernel_rfl)
  ) (by kernel_rfl) (by kernel_rfl)
  ) (by kernel_rfl) (by kernel_rfl)
  ) (by kernel_rfl) (by kernel_rfl)
  ) (by kernel_rfl) (by kernel_rfl)
  ) (by kernel_rfl) (by kernel_rfl)
  ) (by kernel_rfl) (by kernel_rfl)
  ) (by kernel_rfl) (by kernel_rfl)
  ) (by kernel_rfl) (by kernel_rfl)
  ) (by kernel_rfl) (by kernel_rfl)
  ) (by kernel_rfl) (by kernel_rfl)
  ) (by kernel_rfl) (by kernel_rfl)
  ) (by kernel_rfl) (by kernel_rfl)
  ) (by kernel_rfl) (by kernel_rfl)
  ) (by kernel_rfl) (by kernel_rfl)
  ) (by kernel_rfl) (by kernel_rfl)
  ) (by kernel_rfl) (by kernel_rfl)
  ) (by kernel_rfl) (by kernel_rfl)
  ) (by kernel_rfl) (by kernel_rfl)
  ) (by kernel_rfl) (by kernel_rfl)
  ) (by kernel_rfl) (by kernel_rfl)
  ) (by kernel_rfl) (by kernel_rfl)
  ) (by kernel_rfl) (by kernel_rfl)
  ) (by kernel_rfl) (by kernel_rfl)
  ) (by kernel_rfl) (by kernel_rfl)
  ) (by kernel_rfl) (by kernel_rfl)
  ) (by kernel_rfl) (by kernel_rfl)
  ) (by kernel_rfl) (by kernel_rfl)
  ) (by kernel_rfl) (by kernel_rfl)
  ) (by kernel_rfl) (by kernel_rfl)
  ) (by kernel_rfl) (by kernel_rfl)
  ) (by kernel_rfl) (by kernel_rfl)
  ) (by kernel_rfl) (by kernel_rfl)
  ) (by kernel_rfl) (by kernel_rfl)
  ) (by kernel_rfl) (by kernel_rfl)
  ) (by kernel_rfl) (by kernel_rfl)
  ) (by kernel_rfl) (by kernel_rfl)
  ) (by kernel_rfl) (by kernel_rfl)
  ) (by kernel_rfl) (by kernel_rfl)
  ) (by kernel_rfl) (by kernel_rfl)
  ) (by kernel_rfl) (by kernel_rfl)
  ) (by kernel_rfl) (by kernel_rfl)
  ) (by kernel_rfl) (by kernel_rfl)
  ) (by kernel_rfl) (by kernel_rfl)
  ) (by kernel_rfl) (by kernel_rfl)
  ) (by kernel_rfl) (by kernel_rfl)
  ) (by kernel_rfl) (by kernel_rfl)
  ) (by kernel_rfl) (by kernel_rfl)
  ) (by kernel_rfl) (by kernel_rfl)
  ) (by kernel_rfl) (by kernel_rfl)
  ) (by kernel_rfl) (by kernel_rfl)
  ) (by kernel_rfl) (by kernel_rfl)
  ) (by kernel_rfl) (by kernel_rfl)
  ) (by kernel_rfl) (by kernel_rfl)
  ) (by kernel_rfl) (by kernel_rfl)
  ) (by kernel_rfl) (by kernel_rfl)
  ) (by kernel_rfl) (by kernel_rfl)
  ) (by kernel_rfl) (by kernel_rfl)
  ) (by kernel_rfl) (by kernel_rfl)
  ) (by kernel_rfl) (by kernel_rfl)
  ) (by kernel_rfl) (by kernel_rfl)
  ) (by kernel_rfl) (by kernel_rfl)
  ) (by kernel_rfl) (by kernel_rfl)
  ) (by kernel_rfl) (by kernel_rfl)
  ) (by kernel_rfl) (by kernel_rfl)
  ) (by kernel_rfl) (by kernel_rfl)
  ) (by kernel_rfl) (by kernel_rfl)
  ) (by kernel_rfl) (by kernel_rfl)
  ) (by kernel_rfl) (by kernel_rfl)
  ) (by kernel_rfl) (by kernel_rfl)
  ) (by kernel_rfl) (by kernel_rfl)
  ) (by kernel_rfl) (by kernel_rfl)
  ) (by kernel_rfl) (by kernel_rfl)
  ) (by kernel_rfl) (by kernel_rfl)
  ) (by kernel_rfl) (by kernel_rfl)
  ) (by kernel_rfl) (by kernel_rfl)
  ) (by kernel_rfl) (by kernel_rfl)
  ) (by kernel_rfl) (by kernel_rfl)
  ) (by kernel_rfl) (by kernel_rfl)
  ) (by kernel_rfl) (by kernel_rfl)
  ) (by kernel_rfl) (by kernel_rfl)
  ) (by kernel_rfl) (by kernel_rfl)
  ) (by kernel_rfl) (by kernel_rfl)
  ) (by kernel_rfl) (by kernel_rfl)
  ) (by kernel_rfl) (by kernel_rfl)
  ) (by kernel_rfl) (by kernel_rfl)
  ) (by kernel_rfl) (by kernel_rfl)
  ) (by kernel_rfl) (by kernel_rfl)
  ) (by kernel_rfl) (by kernel_rfl)
  ) (by kernel_rfl) (by kernel_rfl)
  ) (by kernel_rfl) (by kernel_rfl)
  ) (by kernel_rfl) (by kernel_rfl)
  ) (by kernel_rfl) (by kernel_rfl)
  ) (by kernel_rfl) (by kernel_rfl)
  ) (by kernel_rfl) (by kernel_rfl)
  ) (by kernel_rfl) (by kernel_rfl)
  ) (by kernel_rfl) (by kernel_rfl)
  ) (by kernel_rfl) (by kernel_rfl)
  ) (by kernel_rfl) (by kernel_rfl)
  ) (by kernel_rfl) (by kernel_rfl)
  ) (by kernel_rfl) (by kernel_rfl)
  ) (by kernel_rfl) (by kernel_rfl)
  ) (by kernel_rfl) (by kernel_rfl)
  ) (by kernel_rfl) (by kernel_rfl)
  ) (by kernel_rfl) (by kernel_rfl)
  ) (by kernel_rfl) (by kernel_rfl)
  ) (by kernel_rfl) (by kernel_rfl)
  ) (by kernel_rfl) (by kernel_rfl)
  ) (by kernel_rfl) (by kernel_rfl)
  ) (by kernel_rfl) (by kernel_rfl)
  ) (by kernel_rfl) (by kernel_rfl)
  ) (by kernel_rfl) (by kernel_rfl)
  ) (by kernel_rfl) (by kernel_rfl)
  ) (by kernel_rfl) (by kernel_rfl)
  ) (by kernel_rfl) (by kernel_rfl)
  ) (by kernel_rfl) (by kernel_rfl)
  ) (by kernel_rfl) (by kernel_rfl)
  ) (by kernel_rfl) (by kernel_rfl)
  ) (by kernel_rfl) (by kernel_rfl)
  ) (by kernel_rfl) (by kernel_rfl)
  ) (by kernel_rfl) (by kernel_rfl)
  ) (by kernel_rfl) (by kernel_rfl)
  ) (by kernel_rfl) (by kernel_rfl)
  ) (by kernel_rfl) (by kernel_rfl)
  ) (by kernel_rfl) (by kernel_rfl)
  ) (by kernel_rfl) (by kernel_rfl)
  ) (by kernel_rfl) (by kernel_rfl)
  ) (by kernel_rfl) (by kernel_rfl)
  ) (by kernel_rfl) (by kernel_rfl)
  ) (by kernel_rfl) (by kernel_rfl)
  ) (by kernel_rfl) (by kernel_rfl)
  ) (by kernel_rfl) (by kernel_rfl)
  ) (by kernel_rfl) (by kernel_rfl)
  ) (by kernel_rfl) (by kernel_rfl)
  ) (by kernel_rfl) (by kernel_rfl)
  ) (by kernel_rfl) (by kernel_rfl)
  ) (by kernel_rfl) (by kernel_rfl)
  ) (by kernel_rfl) (by kernel_rfl)
  ) (by kernel_rfl) (by kernel_rfl)
  ) (by kernel_rfl) (by kernel_rfl)
  ) (by kernel_rfl) (by kernel_rfl)
  ) (by kernel_rfl) (by kernel_rfl)
  ) (by kernel_rfl) (by kernel_rfl)
  ) (by kernel_rfl) (by kernel_rfl)
  ) (by kernel_rfl) (by kernel_rfl)
  ) (by kernel_rfl) (by kernel_rfl)
  ) (by kernel_rfl) (by kernel_rfl)
  ) (by kernel_rfl) (by kernel_rfl)
  ) (by kernel_rfl) (by kernel_rfl)
  ) (by kernel_rfl) (by kernel_rfl)
  ) (by kernel_rfl) (by kernel_rfl)
  ) (by kernel_rfl) (by kernel_rfl)
  ) (by kernel_rfl) (by kernel_rfl)
  ) (by kernel_rfl) (by kernel_rfl)
  ) (by kernel_rfl) (by kernel_rfl)
  ) (by kernel_rfl) (by kernel_rfl)
  ) (by kernel_rfl) (by kernel_rfl)
  ) (by kernel_rfl) (by kernel_rfl)
  ) (by kernel_rfl) (by kernel_rfl)
  ) (by kernel_rfl) (by kernel_rfl)
  ) (by kernel_rfl) (by kernel_rfl)
  ) (by kernel_rfl) (by kernel_rfl)
  ) (by kernel_rfl) (by kernel_rfl)
  ) (by kernel_rfl) (by kernel_rfl)
  ) (by kernel_rfl) (by kernel_rfl)
  ) (by kernel_rfl) (by kernel_rfl)
  ) (by kernel_rfl) (by kernel_rfl)
  ) (by kernel_rfl) (by kernel_rfl)
  ) (by kernel_rfl) (by kernel_rfl)
  ) (by kernel_rfl) (by kernel_rfl)
  ) (by kernel_rfl) (by kernel_rfl)
  ) (by kernel_rfl) (by kernel_rfl)
  ) (by kernel_rfl) (by kernel_rfl)
  ) (by kernel_rfl) (by kernel_rfl)
  ) (by kernel_rfl) (by kernel_rfl)
  ) (by kernel_rfl) (by kernel_rfl)
  ) (by kernel_rfl) (by kernel_rfl)
  ) (by kernel_rfl) (by kernel_rfl)
  ) (by kernel_rfl) (by kernel_rfl)
  ) (by kernel_rfl) (by kernel_rfl)
  ) (by kernel_rfl) (by kernel_rfl)
  ) (by kernel_rfl) (by kernel_rfl)
  ) (by kernel_rfl) (by kernel_rfl)
  ) (by kernel_rfl) (by kernel_rfl)
  ) (by kernel_rfl) (by kernel_rfl)
  ) (by kernel_rfl) (by kernel_rfl)
  ) (by kernel_rfl) (by kernel_rfl)
  ) (by kernel_rfl) (by kernel_rfl)
  ) (by kernel_rfl) (by kernel_rfl)
  ) (by kernel_rfl) (by kernel_rfl)
  ) (by kernel_rfl) (by kernel_rfl)
  ) (by kernel_rfl) (by kernel_rfl)
  ) (by kernel_rfl) (by kernel_rfl)
  ) (by kernel_rfl) (by kernel_rfl)
end Go.Proofs.YtdiciemlbhkilaaGreatDoor
namespace Go.Proofs.YtdiciemlbhkilaaGreatDoor
open Go Go.Cx Go.RowKit
set_option linter.unusedVariables false
set_option linter.unusedSimpArgs false
set_option maxHeartbeats 4000000
attribute [local irreducible] J JC thenK blockK loopK roundK drawK retK QW Qt pel List.set Calls
def formedB (v no yes : Int) (c : Bool) (i n size : Int) : Bool :=
  if v = 0 then decide (no = 0 ∧ yes = 0) else (!c) && decide (0 < v) && decide (v ≤ n) && decide (i < min no yes) && decide (max no yes < size)
theorem formed_any (v no yes i n size : Int) (c : Bool) (w : World) :
    Calls Tryz.prog 58 #[.agg #[.int .i64 v, .int .i64 no, .int .i64 yes, .bool c], .int .i64 i, .int .i64 n, .int .i64 size] w fun e w' => e = .returned (.bool (formedB v no yes c i n size)) ∧ Below w.heap.size w w' := by
  refine calls_of_JC (R := []) Tryz.func58 Tryz.ntmps58 rfl rfl (Holds.nil _) ?_
  repeat' first
    | (refine J.isJ ?_; (first | (first | (refine J.o 0 ?_; refine J.ev' hΓ ?_) | refine J.nil ?_ | refine J.kd ?_ | (refine J.o 4 ?_; first | refine J.e0 hΓ ?_) | (refine J.o 3 ?_; first | refine J.ev' hΓ ?_) | (refine J.o 6 ?_; refine J.bx (fun _ => ?_)) | (refine J.o 10 ?_; first | refine J.ev' hΓ ?_) | (refine J.o 11 ?_; first | refine J.ev' hΓ ?_)) | ((fail_if_success refine J.wt ?_); refine J.gc rfl rfl (fun hc => ?_) (fun hc => ?_) <;> ((try simp only [tcS] at hc) <;> first | (first | (exact absurd rfl hc) | (exfalso; omega) | (exact (tF hc (by assumption)).elim) | (exact (fT hc (by assumption)).elim)) | skip))))
    | (first | refine JC.seq ?_ | refine JC.region ?_ | refine JC.ret ?_ | refine JC.skip ?_ | refine thenK.nn ?_ | refine thenK.r ?_ | (refine JC.cond rfl (fun hc => ?_) (fun hc => ?_) <;> ((try simp only [tcS] at hc) <;> first | (first | (exact absurd rfl hc) | (exfalso; omega) | (exact (tF hc (by assumption)).elim) | (exact (fT hc (by assumption)).elim)) | skip)))
    | fail
  all_goals (refine ret1f rfl rfl rfl (fun w1 hw => ⟨retB ?_, hw.below⟩))
  all_goals (clear hw; unfold formedB; grind)
end Go.Proofs.YtdiciemlbhkilaaGreatDoor
namespace Go.Proofs.YtdiciemlbhkilaaGreatDoor
open Go Go.Cx Go.RowKit
set_option linter.unusedVariables false
set_option linter.unusedSimpArgs false
set_option maxHeartbeats 4000000
attribute [local irreducible] J JC thenK blockK loopK roundK drawK retK QW Qt pel List.set Calls
def sv (s : Nat × Nat) : Value := .agg ⟨[.int .u64 (s.1 : Int), .int .u64 (s.2 : Int)]⟩
def hasB (s : Nat × Nat) (v : Int) : Bool := if 1 ≤ v ∧ v ≤ 64 then s.1.testBit (v - 1).toNat else if 65 ≤ v ∧ v ≤ 128 then s.2.testBit (v - 65).toNat else false
def withS (s : Nat × Nat) (v : Int) : Nat × Nat := if 1 ≤ v ∧ v ≤ 64 then (s.1 ||| 2 ^ (v - 1).toNat, s.2) else if 65 ≤ v ∧ v ≤ 128 then (s.1, s.2 ||| 2 ^ (v - 65).toNat) else s
theorem and_pow (a k : Nat) : a &&& 2 ^ k = if a.testBit k then 2 ^ k else 0 := by
  apply Nat.eq_of_testBit_eq
  intro i
  rw [Nat.testBit_and, Nat.testBit_two_pow]
  by_cases h : k = i
  · subst h; cases hb : a.testBit k <;> simp
  · cases hb : a.testBit k <;> simp [h, Nat.testBit_two_pow]
theorem bit_ne (a k : Nat) : (((a &&& 2 ^ k : Nat) : Int) != 0) = a.testBit k := by
  rw [and_pow]
  have := Nat.two_pow_pos k
  cases a.testBit k
  · rfl
  · simp only [if_true, bne_iff_ne, ne_eq]; omega
theorem place_out (v : Int) (h : v < 1 ∨ 128 < v) (w : World) :
    Calls Tryz.prog 93 #[.int .i64 v] w fun e w' => e = .returned (.tuple #[.int .i64 0, .int .u64 0, .bool false]) ∧ Below w.heap.size w w' := by
  refine calls_of_JC (R := []) Tryz.func93 Tryz.ntmps93 rfl rfl (Holds.nil _) ?_
  repeat' first
    | (refine J.isJ ?_; (first | (first | (refine J.o 0 ?_; refine J.ev' hΓ ?_) | refine J.nil ?_ | refine J.kd ?_ | (refine J.o 3 ?_; first | refine J.ev' hΓ ?_) | (refine J.o 10 ?_; first | refine J.ev' hΓ ?_) | (refine J.o 11 ?_; first | refine J.ev' hΓ ?_)) | ((fail_if_success refine J.wt ?_); refine J.gc rfl rfl (fun hc => ?_) (fun hc => ?_) <;> ((try simp only [tcS] at hc) <;> first | (first | (exact absurd rfl hc) | (exfalso; omega) | (exact (tF hc (by assumption)).elim) | (exact (fT hc (by assumption)).elim)) | skip))))
    | (first | refine JC.seq ?_ | refine JC.region ?_ | refine JC.ret ?_ | refine thenK.nn ?_ | refine thenK.r ?_ | refine JC.condT rfl ?_ | (refine JC.cond rfl (fun hc => ?_) (fun hc => ?_) <;> ((try simp only [tcS] at hc) <;> first | (first | (exact absurd rfl hc) | (exfalso; omega) | (exact (tF hc (by assumption)).elim) | (exact (fT hc (by assumption)).elim)) | skip)))
    | fail
  all_goals first | omega | skip
  all_goals (refine ret3f rfl rfl rfl rfl rfl rfl rfl (fun w1 hw => ⟨?_, hw.below⟩))
  all_goals first | rfl | omega
theorem place_low (v : Int) (h : 1 ≤ v ∧ v ≤ 64) (w : World) :
    Calls Tryz.prog 93 #[.int .i64 v] w fun e w' => e = .returned (.tuple #[.int .i64 0, .int .u64 ((2 ^ (v - 1).toNat : Nat) : Int), .bool true]) ∧ Below w.heap.size w w' := by
  refine calls_of_JC (R := []) Tryz.func93 Tryz.ntmps93 rfl rfl (Holds.nil _) ?_
  repeat' first
    | (refine J.isJ ?_; (first | (first | (refine J.o 0 ?_; refine J.ev' hΓ ?_) | refine J.nil ?_ | (refine J.o 3 ?_; first | refine J.ev' hΓ ?_) | (refine J.o 1 ?_; first | refine J.sb ?_ | refine J.qu ?_ | refine J.rm ?_ | refine J.s1 ?_) | (refine J.o 2 ?_; refine J.cv _ hΓ ?_) | (refine J.o 10 ?_; first | refine J.ev' hΓ ?_) | (refine J.o 11 ?_; first | refine J.ev' hΓ ?_)) | ((fail_if_success refine J.wt ?_); refine J.gc rfl rfl (fun hc => ?_) (fun hc => ?_) <;> ((try simp only [tcS] at hc) <;> first | (first | (exact absurd rfl hc) | (exfalso; omega) | (exact (tF hc (by assumption)).elim) | (exact (fT hc (by assumption)).elim)) | skip))))
    | (first | refine JC.seq ?_ | refine JC.region ?_ | refine JC.ret ?_ | refine JC.skip ?_ | refine thenK.nn ?_ | (refine JC.cond rfl (fun hc => ?_) (fun hc => ?_) <;> ((try simp only [tcS] at hc) <;> first | (first | (exact absurd rfl hc) | (exfalso; omega) | (exact (tF hc (by assumption)).elim) | (exact (fT hc (by assumption)).elim)) | skip)))
    | fail
  all_goals first | omega | skip
  all_goals (refine ret3f rfl rfl rfl rfl rfl rfl rfl (fun w1 hw => ⟨?_, hw.below⟩))
  all_goals (first | omega | (rw [show (v - 1) / 64 = 0 by omega, show (v - 1) % 64 = v - 1 by omega]))
theorem place_high (v : Int) (h : 65 ≤ v ∧ v ≤ 128) (w : World) :
    Calls Tryz.prog 93 #[.int .i64 v] w fun e w' => e = .returned (.tuple #[.int .i64 1, .int .u64 ((2 ^ (v - 65).toNat : Nat) : Int), .bool true]) ∧ Below w.heap.size w w' := by
  refine calls_of_JC (R := []) Tryz.func93 Tryz.ntmps93 rfl rfl (Holds.nil _) ?_
  repeat' first
    | (refine J.isJ ?_; (first | (first | (refine J.o 0 ?_; refine J.ev' hΓ ?_) | refine J.nil ?_ | (refine J.o 3 ?_; first | refine J.ev' hΓ ?_) | (refine J.o 1 ?_; first | refine J.sb ?_ | refine J.qu ?_ | refine J.rm ?_ | refine J.s1 ?_) | (refine J.o 2 ?_; refine J.cv _ hΓ ?_) | (refine J.o 10 ?_; first | refine J.ev' hΓ ?_) | (refine J.o 11 ?_; first | refine J.ev' hΓ ?_)) | ((fail_if_success refine J.wt ?_); refine J.gc rfl rfl (fun hc => ?_) (fun hc => ?_) <;> ((try simp only [tcS] at hc) <;> first | (first | (exact absurd rfl hc) | (exfalso; omega) | (exact (tF hc (by assumption)).elim) | (exact (fT hc (by assumption)).elim)) | skip))))
    | (first | refine JC.seq ?_ | refine JC.region ?_ | refine JC.ret ?_ | refine JC.skip ?_ | refine thenK.nn ?_ | (refine JC.cond rfl (fun hc => ?_) (fun hc => ?_) <;> ((try simp only [tcS] at hc) <;> first | (first | (exact absurd rfl hc) | (exfalso; omega) | (exact (tF hc (by assumption)).elim) | (exact (fT hc (by assumption)).elim)) | skip)))
    | fail
  all_goals first | omega | skip
  all_goals (refine ret3f rfl rfl rfl rfl rfl rfl rfl (fun w1 hw => ⟨?_, hw.below⟩))
  all_goals (first | omega | (rw [show (v - 1) / 64 = 1 by omega, show (v - 1) % 64 = v - 65 by omega]))
theorem ePlace : Entr Tryz.prog 93 := Entr.of Tryz.func93 rfl rfl
theorem has_any (s : Nat × Nat) (hs : okS s) (v : Int) (w : World) :
    Calls Tryz.prog 59 #[sv s, .int .i64 v] w fun e w' => e = .returned (.bool (hasB s v)) ∧ Below w.heap.size w w' := by
  obtain ⟨h1, h2⟩ := hs
  unfold hasB
  by_cases hl : 1 ≤ v ∧ v ≤ 64
  · have hp := pow64 (j := (v - 1).toNat) (by omega)
    refine calls_of_JC (R := []) Tryz.func59 Tryz.ntmps59 rfl rfl (Holds.nil _) ?_
    repeat' first
      | (refine J.isJ ?_; first | (first | (refine J.o 0 ?_; refine J.ev' hΓ ?_) | refine J.nil ?_ | refine J.kd ?_ | (refine J.o 4 ?_; first | refine J.e0 hΓ ?_) | (refine J.o 3 ?_; first | refine J.iA hΓ ?_ | refine J.ev' hΓ ?_) | (refine J.o 1 ?_; first | refine J.aW ?_) | (refine J.o 6 ?_; refine J.bx (fun _ => ?_)) | (refine J.o 10 ?_; first | refine J.ev' hΓ ?_) | (refine J.o 11 ?_; first | refine J.ev' hΓ ?_)) | (refine J.call0 ePlace rfl rfl (fun w hw => place_low v hl w) ?_))
      | (first | refine JC.seq ?_ | refine JC.region ?_ | refine JC.ret ?_ | refine thenK.nn ?_)
      | fail
    all_goals (refine ret1f rfl rfl rfl (fun w1 hw => ⟨retB ?_, hw.below⟩))
    rw [if_pos hl, bit_ne]
  by_cases hh : 65 ≤ v ∧ v ≤ 128
  · have hp := pow64 (j := (v - 65).toNat) (by omega)
    refine calls_of_JC (R := []) Tryz.func59 Tryz.ntmps59 rfl rfl (Holds.nil _) ?_
    repeat' first
      | (refine J.isJ ?_; first | (first | (refine J.o 0 ?_; refine J.ev' hΓ ?_) | refine J.nil ?_ | refine J.kd ?_ | (refine J.o 4 ?_; first | refine J.e0 hΓ ?_) | (refine J.o 3 ?_; first | refine J.iA hΓ ?_ | refine J.ev' hΓ ?_) | (refine J.o 1 ?_; first | refine J.aW ?_) | (refine J.o 6 ?_; refine J.bx (fun _ => ?_)) | (refine J.o 10 ?_; first | refine J.ev' hΓ ?_) | (refine J.o 11 ?_; first | refine J.ev' hΓ ?_)) | (refine J.call0 ePlace rfl rfl (fun w hw => place_high v hh w) ?_))
      | (first | refine JC.seq ?_ | refine JC.region ?_ | refine JC.ret ?_ | refine thenK.nn ?_)
      | fail
    all_goals (refine ret1f rfl rfl rfl (fun w1 hw => ⟨retB ?_, hw.below⟩))
    rw [if_neg hl, if_pos hh, bit_ne]
  ·
    refine calls_of_JC (R := []) Tryz.func59 Tryz.ntmps59 rfl rfl (Holds.nil _) ?_
    repeat' first
      | (refine J.isJ ?_; first | (first | (refine J.o 0 ?_; refine J.ev' hΓ ?_) | refine J.nil ?_ | refine J.kd ?_ | (refine J.o 4 ?_; first | refine J.e0 hΓ ?_) | (refine J.o 3 ?_; first | refine J.iA hΓ ?_ | refine J.ev' hΓ ?_) | (refine J.o 1 ?_; first | refine J.aW ?_) | (refine J.o 6 ?_; refine J.bx (fun _ => ?_)) | (refine J.o 10 ?_; first | refine J.ev' hΓ ?_) | (refine J.o 11 ?_; first | refine J.ev' hΓ ?_)) | (refine J.call0 ePlace rfl rfl (fun w hw => place_out v (by omega) w) ?_))
      | (first | refine JC.seq ?_ | refine JC.region ?_ | refine JC.ret ?_ | refine thenK.nn ?_)
      | fail
    all_goals (refine ret1f rfl rfl rfl (fun w1 hw => ⟨retB ?_, hw.below⟩))
    rw [if_neg hl, if_neg hh]
theorem with_any (s : Nat × Nat) (hs : okS s) (v : Int) (w : World) :
    Calls Tryz.prog 52 #[sv s, .int .i64 v] w fun e w' => e = .returned (sv (withS s v)) ∧ Below w.heap.size w w' := by
  obtain ⟨h1, h2⟩ := hs
  unfold withS
  by_cases hl : 1 ≤ v ∧ v ≤ 64
  · have hp := pow64 (j := (v - 1).toNat) (by omega)
    rw [if_pos hl]
    refine calls_of_JC (R := []) Tryz.func52 Tryz.ntmps52 rfl rfl (Holds.nil _) ?_
    repeat' first
      | (refine J.isJ ?_; first | (first | (refine J.o 0 ?_; refine J.ev' hΓ ?_) | refine J.nil ?_ | (refine J.o 4 ?_; first | refine J.e1 hΓ ?_) | (refine J.o 3 ?_; first | refine J.iA hΓ ?_ | refine J.ev' hΓ ?_) | (refine J.o 1 ?_; first | refine J.oW ?_) | (refine J.o 5 ?_; first | refine J.t0 hΓ ?_ | refine J.t1 hΓ ?_) | (refine J.o 6 ?_; refine J.bx (fun _ => ?_)) | (refine J.o 7 ?_; refine J.al hΓ (fun _ => ?_)) | (refine J.o 10 ?_; first | refine J.ev' hΓ ?_) | (refine J.o 11 ?_; first | refine J.ev' hΓ ?_)) | (refine J.call0 ePlace rfl rfl (fun w hw => place_low v hl w) ?_))
      | (first | refine JC.seq ?_ | refine JC.region ?_ | refine JC.ret ?_ | refine JC.skip ?_ | refine thenK.nn ?_ | refine JC.condT rfl ?_ | refine JC.condF rfl ?_)
      | fail
    all_goals (refine retC hΓ rfl rfl rfl Rd.hd rfl (fun w1 hw => ⟨rfl, hw.below⟩))
  by_cases hh : 65 ≤ v ∧ v ≤ 128
  · have hp := pow64 (j := (v - 65).toNat) (by omega)
    rw [if_neg hl, if_pos hh]
    refine calls_of_JC (R := []) Tryz.func52 Tryz.ntmps52 rfl rfl (Holds.nil _) ?_
    repeat' first
      | (refine J.isJ ?_; first | (first | (refine J.o 0 ?_; refine J.ev' hΓ ?_) | refine J.nil ?_ | (refine J.o 4 ?_; first | refine J.e1 hΓ ?_) | (refine J.o 3 ?_; first | refine J.iA hΓ ?_ | refine J.ev' hΓ ?_) | (refine J.o 1 ?_; first | refine J.oW ?_) | (refine J.o 5 ?_; first | refine J.t0 hΓ ?_ | refine J.t1 hΓ ?_) | (refine J.o 6 ?_; refine J.bx (fun _ => ?_)) | (refine J.o 7 ?_; refine J.al hΓ (fun _ => ?_)) | (refine J.o 10 ?_; first | refine J.ev' hΓ ?_) | (refine J.o 11 ?_; first | refine J.ev' hΓ ?_)) | (refine J.call0 ePlace rfl rfl (fun w hw => place_high v hh w) ?_))
      | (first | refine JC.seq ?_ | refine JC.region ?_ | refine JC.ret ?_ | refine JC.skip ?_ | refine thenK.nn ?_ | refine JC.condT rfl ?_ | refine JC.condF rfl ?_)
      | fail
    all_goals (refine retC hΓ rfl rfl rfl Rd.hd rfl (fun w1 hw => ⟨rfl, hw.below⟩))
  · rw [if_neg hl, if_neg hh]
    refine calls_of_JC (R := []) Tryz.func52 Tryz.ntmps52 rfl rfl (Holds.nil _) ?_
    repeat' first
      | (refine J.isJ ?_; first | (first | (refine J.o 0 ?_; refine J.ev' hΓ ?_) | refine J.nil ?_ | (refine J.o 4 ?_; first | refine J.e1 hΓ ?_) | (refine J.o 3 ?_; first | refine J.iA hΓ ?_ | refine J.ev' hΓ ?_) | (refine J.o 1 ?_; first | refine J.oW ?_) | (refine J.o 5 ?_; first | refine J.t0 hΓ ?_ | refine J.t1 hΓ ?_) | (refine J.o 6 ?_; refine J.bx (fun _ => ?_)) | (refine J.o 7 ?_; refine J.al hΓ (fun _ => ?_)) | (refine J.o 10 ?_; first | refine J.ev' hΓ ?_) | (refine J.o 11 ?_; first | refine J.ev' hΓ ?_)) | (refine J.call0 ePlace rfl rfl (fun w hw => place_out v (by omega) w) ?_))
      | (first | refine JC.seq ?_ | refine JC.region ?_ | refine JC.ret ?_ | refine JC.skip ?_ | refine thenK.nn ?_ | refine JC.condT rfl ?_ | refine JC.condF rfl ?_)
      | fail
    all_goals (refine retC hΓ rfl rfl rfl Rd.hd rfl (fun w1 hw => ⟨rfl, hw.below⟩))
end Go.Proofs.YtdiciemlbhkilaaGreatDoor
