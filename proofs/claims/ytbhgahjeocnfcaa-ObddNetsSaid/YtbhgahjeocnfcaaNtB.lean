/- ObddNets: part 2. -/
import Derived.Test.YtbhgahjeocnfcaaNtA
import Derived.Laws.StructEq
import Derived.KernelRfl
import Derived.ProofKit
import Derived.OpenShut
import Derived.ShutString
import Derived.ChangeOld
import Derived.ChangeMaps5
import Derived.LaidMore
import Derived.Stop.Joined
import Derived.Deep.Slices
import Derived.Test.YtbhgahjeocnfcaaChecked
namespace Go.Cx
open Go Go.RowKit
set_option linter.unusedVariables false
set_option linter.unusedSimpArgs false
section
variable {P : Program} {n : Nat} {w0 : World} {R : Heap} {l0 : List Oper} {K : Exit → Fr → List Heap → Prop} {f : Fr} {L : List Heap} {rest : List (Nat × Oper)} {κ : Nat}
variable {Γ : List (Nat × TI)} {d : Nat} {op : Op} {ty : TypeId} {pos : String} {aft : Array Edge} {g : Option (Nat × Bool)} {t u : TypeId} {x y : Operand} {a b : Int}
theorem bin_run {bo : BinOp} {v : Value} {dst : Option Tmp} {k k' : IntKind} (hx : Cx.ev n f x = .int k a) (hy : Cx.ev n f y = .int k' b) (h : ∀ w, (binOp bo t (.int k a) (.int k' b)).run P w = .ok v w) (w : World) :
    (execOp (Cx.ev n f) ⟨dst, .binOp bo t x y u, ty, pos, aft, g⟩).run P w = .ok (.value v) w := by
  simp only [execOp, hx, hy]
  have : (eqGuard bo t x y (.int k a) (.int k' b)).run P w = .ok () w := by cases bo <;> rfl
  simp only [Sem.run_bind]
  rw [this]
  simp only [Result.andThen_ok]
  rw [h w]
  rfl
def opClass : Op → Nat
  | .binOp .add .. => 1 | .binOp .sub .. => 1 | .binOp .mul .. => 1 | .binOp .quo .. => 1 | .binOp .rem .. => 1 | .binOp .shl .. => 1 | .binOp .shr .. => 1 | .binOp .and .. => 1 | .binOp .or .. => 1 | .binOp .andNot .. => 1 | .unOp .neg .. => 1
  | .convert .. => 2 | .indexAddr .. => 3 | .fieldAddr .. => 3 | .load .. => 4 | .store .. => 5 | .box .. => 6 | .alloc .. => 7 | .build .. => 8
  | .binOp .eql .. => 11 | .binOp .neq .. => 11 | .index .. => 12 | .slice .. => 13
  | .move .. => 0 | .assign .. => 0 | .binOp .. => 0 | .unOp .. => 0 | .pick .. => 0 | .extract .. => 0 | .field .. => 0 | .makeFunc .. => 14 | .nilCheck .. => 0 | .call ⟨.builtin .len, _, _⟩ => 10 | .call ⟨.builtin .min, _, _⟩ => 0 | .call ⟨.builtin .max, _, _⟩ => 0
  | _ => 9
theorem J.isJ {rs : List (Nat × Oper)} (k : J P n w0 R l0 K rs f L) : J P n w0 R l0 K rs f L := k
theorem J.addN (hg : wantB n f l0 ⟨some d, .binOp .add t x y u, ty, pos, aft, g⟩ = true) (hx : Cx.ev n f x = .int .i64 a) (hy : Cx.ev n f y = .int .i64 b) (h : -9223372036854775808 ≤ a + b ∧ a + b ≤ 9223372036854775807)
    (k : J P n w0 R l0 K rest (upd f d (.int .i64 (a + b))) L) : J P n w0 R l0 K ((κ, ⟨some d, .binOp .add t x y u, ty, pos, aft, g⟩) :: rest) f L :=
  J.p hg (bin_run hx hy (fun w => by simp [binOp, Op.intArith, IntWalk.i64_in _ h, go_sem])) k
theorem J.subN (hg : wantB n f l0 ⟨some d, .binOp .sub t x y u, ty, pos, aft, g⟩ = true) (hx : Cx.ev n f x = .int .i64 a) (hy : Cx.ev n f y = .int .i64 b) (h : -9223372036854775808 ≤ a - b ∧ a - b ≤ 9223372036854775807)
    (k : J P n w0 R l0 K rest (upd f d (.int .i64 (a - b))) L) : J P n w0 R l0 K ((κ, ⟨some d, .binOp .sub t x y u, ty, pos, aft, g⟩) :: rest) f L :=
  J.p hg (bin_run hx hy (fun w => by simp [binOp, Op.intArith, IntWalk.i64_in _ h, go_sem])) k
theorem J.mulN (hg : wantB n f l0 ⟨some d, .binOp .mul t x y u, ty, pos, aft, g⟩ = true) (hx : Cx.ev n f x = .int .i64 a) (hy : Cx.ev n f y = .int .i64 b) (h : -9223372036854775808 ≤ a * b ∧ a * b ≤ 9223372036854775807)
    (k : J P n w0 R l0 K rest (upd f d (.int .i64 (a * b))) L) : J P n w0 R l0 K ((κ, ⟨some d, .binOp .mul t x y u, ty, pos, aft, g⟩) :: rest) f L :=
  J.p hg (bin_run hx hy (fun w => by simp [binOp, Op.intArith, IntWalk.i64_in _ h, go_sem])) k
theorem J.negN (hg : wantB n f l0 ⟨some d, .unOp .neg t x, ty, pos, aft, g⟩ = true) (hx : Cx.ev n f x = .int .i64 a) (h : -9223372036854775807 ≤ a ∧ a ≤ 9223372036854775807)
    (k : J P n w0 R l0 K rest (upd f d (.int .i64 (-a))) L) : J P n w0 R l0 K ((κ, ⟨some d, .unOp .neg t x, ty, pos, aft, g⟩) :: rest) f L :=
  J.p hg (fun w => by
    have hwr : IntKind.i64.wrap (-a) = -a := IntWalk.i64_in _ (by omega)
    simp [execOp, hx, Op.unary, Op.intArith, hwr, go_sem]) k
theorem J.quo (hg : wantB n f l0 ⟨some d, .binOp .quo t x y u, ty, pos, aft, g⟩ = true) (hx : Cx.ev n f x = .int .i64 a) (hy : Cx.ev n f y = .int .i64 b) (h0 : 0 ≤ a) (h1 : a ≤ 9223372036854775807) (h2 : 1 ≤ b)
    (k : J P n w0 R l0 K rest (upd f d (.int .i64 (a / b))) L) : J P n w0 R l0 K ((κ, ⟨some d, .binOp .quo t x y u, ty, pos, aft, g⟩) :: rest) f L :=
  J.p hg (bin_run hx hy (fun w => by
    have := IntWalk.i64_quo a b ⟨h0, h1, h2⟩
    have hb : ¬ b = 0 := by omega
    simp [binOp, Op.intDiv, hb, this, go_sem])) k
theorem J.rem {k1 : IntKind} (hg : wantB n f l0 ⟨some d, .binOp .rem t x y u, ty, pos, aft, g⟩ = true) (hx : Cx.ev n f x = .int k1 a) (hy : Cx.ev n f y = .int k1 b) (h0 : 0 ≤ a) (h2 : 1 ≤ b)
    (k : J P n w0 R l0 K rest (upd f d (.int k1 (a % b))) L) : J P n w0 R l0 K ((κ, ⟨some d, .binOp .rem t x y u, ty, pos, aft, g⟩) :: rest) f L :=
  J.p hg (bin_run hx hy (fun w => by
    have := IntWalk.rem_in a b h0
    have hb : ¬ b = 0 := by omega
    simp [binOp, Op.intDiv, hb, this, go_sem])) k
theorem J.cvt {src dst : TypeId} {k1 : IntKind} {ts : TI} {s2 b2 : Nat} {z2 : Option Value} (k2 : IntKind) (hΓ : Fits P Γ) (hg : wantB n f l0 ⟨some d, .convert src dst x, ty, pos, aft, g⟩ = true) (hx : Cx.ev n f x = .int k1 a) (hs : look Γ src = some ts) (hd : look Γ dst = some ⟨.int k2, s2, z2, b2⟩) (hk : k2.wrap a = a)
    (k : J P n w0 R l0 K rest (upd f d (.int k2 a)) L) : J P n w0 R l0 K ((κ, ⟨some d, .convert src dst x, ty, pos, aft, g⟩) :: rest) f L := by
  obtain ⟨dd, s3, z3, b3⟩ := ts
  refine J.ev (v := .int k2 a) hΓ hg ?_ k
  simp only [pureEv, hx, hs, hd]
  rw [hk]
theorem wrap_u64 (h : 0 ≤ a ∧ a ≤ 18446744073709551615) : IntKind.u64.wrap a = a := IntWalk.u64_in a h
theorem J.shl1 {yk : IntKind} {j : Int} (hg : wantB n f l0 ⟨some d, .binOp .shl t x y u, ty, pos, aft, g⟩ = true) (hx : Cx.ev n f x = .int .u64 1) (hy : Cx.ev n f y = .int yk j) (h0 : 0 ≤ j) (h1 : j < 64)
    (k : J P n w0 R l0 K rest (upd f d (.int .u64 ((2 ^ j.toNat : Nat) : Int))) L) : J P n w0 R l0 K ((κ, ⟨some d, .binOp .shl t x y u, ty, pos, aft, g⟩) :: rest) f L :=
  J.p hg (bin_run hx hy (fun w => by
    have hj : j.toNat < 64 := by omega
    have hlt : 2 ^ j.toNat < 2 ^ 64 := Nat.pow_lt_pow_right (by omega) hj
    have hm : min j.toNat 64 = j.toNat := by omega
    have hn : ¬ j < 0 := by omega
    have hcast : ((2 : Int) ^ j.toNat) = ((2 ^ j.toNat : Nat) : Int) := by rw [Int.natCast_pow]; rfl
    have hw : IntKind.u64.wrap ((2 : Int) ^ j.toNat) = ((2 ^ j.toNat : Nat) : Int) := by
      rw [hcast, IntWalk.u64_in _ ⟨Int.natCast_nonneg _, by have := Int.ofNat_lt.mpr hlt; have e : ((2 ^ 64 : Nat) : Int) = 18446744073709551616 := rfl; omega⟩]
    simp only [binOp, Op.shift, if_neg hn, IntKind.bits, hm, Int.one_mul, hw]
    rfl)) k
theorem J.shrW {yk : IntKind} {j : Int} {m : Nat} (hg : wantB n f l0 ⟨some d, .binOp .shr t x y u, ty, pos, aft, g⟩ = true) (hx : Cx.ev n f x = .int .u64 (m : Int)) (hy : Cx.ev n f y = .int yk j) (h0 : 0 ≤ j) (h1 : j < 64)
    (k : J P n w0 R l0 K rest (upd f d (.int .u64 ((m / 2 ^ j.toNat : Nat) : Int))) L) : J P n w0 R l0 K ((κ, ⟨some d, .binOp .shr t x y u, ty, pos, aft, g⟩) :: rest) f L :=
  J.p hg (bin_run hx hy (fun w => by
    have hm : min j.toNat 64 = j.toNat := by omega
    have hn : ¬ j < 0 := by omega
    have hcast : ((2 : Int) ^ j.toNat) = ((2 ^ j.toNat : Nat) : Int) := by rw [Int.natCast_pow]; rfl
    have hd : ((m : Int)).fdiv ((2 : Int) ^ j.toNat) = ((m / 2 ^ j.toNat : Nat) : Int) := by
      rw [hcast, Int.fdiv_eq_ediv_of_nonneg _ (Int.natCast_nonneg _)]
      rfl
    simp only [binOp, Op.shift, if_neg hn, IntKind.bits, hm, hd]
    rfl)) k
theorem ofInt_nat (m : Nat) : BitVec.ofInt 64 (m : Int) = BitVec.ofNat 64 m := by simp
theorem bits_u64 {bo : BinOp} {m q r : Nat} (h : ∀ w, (Op.intBits bo .u64 (m : Int) (q : Int)).run P w = .ok (.int .u64 (r : Int)) w) (hb : bo = .and ∨ bo = .or ∨ bo = .xor ∨ bo = .andNot) (w : World) : (binOp bo t (.int .u64 (m : Int)) (.int .u64 (q : Int))).run P w = .ok (.int .u64 (r : Int)) w := by
  have := h w
  rcases hb with rfl | rfl | rfl | rfl <;> simpa [binOp] using this
theorem back_u64 {r : Nat} (hr : r < 2 ^ 64) (w : World) : (pure (Value.int .u64 (IntKind.u64.wrap (r : Int))) : Sem Value).run P w = .ok (.int .u64 (r : Int)) w := by
  rw [IntWalk.u64_in _ ⟨Int.natCast_nonneg _, by have := Int.ofNat_lt.mpr hr; have e : ((2 ^ 64 : Nat) : Int) = 18446744073709551616 := rfl; omega⟩]
  rfl
theorem bv_n {m : Nat} (hm : m < 2 ^ 64) : (BitVec.ofInt 64 (m : Int)).toNat = m := by rw [ofInt_nat, BitVec.toNat_ofNat, Nat.mod_eq_of_lt hm]
theorem J.andW {m q : Nat} (hg : wantB n f l0 ⟨some d, .binOp .and t x y u, ty, pos, aft, g⟩ = true) (hx : Cx.ev n f x = .int .u64 (m : Int)) (hy : Cx.ev n f y = .int .u64 (q : Int)) (hm : m < 2 ^ 64) (hq : q < 2 ^ 64)
    (k : J P n w0 R l0 K rest (upd f d (.int .u64 ((m &&& q : Nat) : Int))) L) : J P n w0 R l0 K ((κ, ⟨some d, .binOp .and t x y u, ty, pos, aft, g⟩) :: rest) f L :=
  J.p hg (bin_run hx hy (bits_u64 (fun w => by
    have := back_u64 (P := P) (r := m &&& q) (Nat.and_lt_two_pow m hq) w
    have e : (BitVec.ofInt 64 (m : Int) &&& BitVec.ofInt 64 (q : Int)).toNat = m &&& q := by rw [BitVec.toNat_and, bv_n hm, bv_n hq]
    show (pure (Value.int .u64 (IntKind.u64.wrap ((BitVec.ofInt 64 (m : Int) &&& BitVec.ofInt 64 (q : Int)).toNat : Int))) : Sem Value).run P w = _
    rw [e]
    exact this) (.inl rfl))) k
theorem J.orW {m q : Nat} (hg : wantB n f l0 ⟨some d, .binOp .or t x y u, ty, pos, aft, g⟩ = true) (hx : Cx.ev n f x = .int .u64 (m : Int)) (hy : Cx.ev n f y = .int .u64 (q : Int)) (hm : m < 2 ^ 64) (hq : q < 2 ^ 64)
    (k : J P n w0 R l0 K rest (upd f d (.int .u64 ((m ||| q : Nat) : Int))) L) : J P n w0 R l0 K ((κ, ⟨some d, .binOp .or t x y u, ty, pos, aft, g⟩) :: rest) f L :=
  J.p hg (bin_run hx hy (bits_u64 (fun w => by
    have := back_u64 (P := P) (r := m ||| q) (Nat.or_lt_two_pow hm hq) w
    have e : (BitVec.ofInt 64 (m : Int) ||| BitVec.ofInt 64 (q : Int)).toNat = m ||| q := by rw [BitVec.toNat_or, bv_n hm, bv_n hq]
    show (pure (Value.int .u64 (IntKind.u64.wrap ((BitVec.ofInt 64 (m : Int) ||| BitVec.ofInt 64 (q : Int)).toNat : Int))) : Sem Value).run P w = _
    rw [e]
    exact this) (.inr (.inl rfl)))) k
theorem J.idxA {m : Nat} {e : TypeId} {i : Int} {j : Nat} {ki : IntKind} {bb o : Nat} {s1 s2 b1 b2 : Nat} {z1 z2 : Option Value} {de : TypeDesc} (hΓ : Fits P Γ) (hg : wantB n f l0 ⟨some d, .indexAddr t x y, ty, pos, aft, g⟩ = true) (hx : Cx.ev n f x = .pointer (some ⟨bb, o, none⟩)) (hy : Cx.ev n f y = .int ki i)
    (ht : look Γ t = some ⟨.array m e, s1, z1, b1⟩) (he : look Γ e = some ⟨de, s2, z2, b2⟩) (h0 : 0 ≤ i) (hi : i < (m : Int)) (hj : i.toNat = j)
    (k : J P n w0 R l0 K rest (upd f d (.pointer (some ⟨bb, o + j * s2, none⟩))) L) : J P n w0 R l0 K ((κ, ⟨some d, .indexAddr t x y, ty, pos, aft, g⟩) :: rest) f L :=
  J.p hg (fun w => by
    have hu := (hΓ t _ ht).1
    have hsz := sizeOf_run hΓ he w
    have hadd : (⟨bb, o, none⟩ : Addr).add (j * s2) = ⟨bb, o + j * s2, none⟩ := by
      unfold Addr.add
      split
      · rename_i h0; rw [h0]; rfl
      · rfl
    have : (Instr.indexAt t (.pointer (some ⟨bb, o, none⟩)) (.int ki i)).run P w = .ok (.pointer (some ⟨bb, o + j * s2, none⟩)) w := by
      unfold Instr.indexAt
      simp only [asIntOf, Sem.run_bind, Sem.run_pure, Result.andThen_ok, run_underlying hu, Instr.sureAddr]
      rw [if_pos ⟨h0, hi⟩]
      simp only [Sem.run_bind, hsz, Result.andThen_ok, hj, hadd]
      rfl
    simp only [execOp, hx, hy, Sem.run_bind]
    rw [this]
    rfl) k
theorem J.idxJ {α : Type} {enc : α → List Value} {a : Option Addr} {ts : List α} {h : Heap} {t e : TypeId} {s1 s2 : Nat} {z1 z2 : Option Value} {b1 b2 : Nat} {de : TypeDesc} {x ix : Operand} {len cap : Nat} {kk : IntKind} {i : Int} {j : Nat} (hΓ : Fits P Γ) (hg : wantB n f l0 ⟨some d, .indexAddr t x ix, ty, pos, aft, g⟩ = true) (hx : Cx.ev n f x = .slice a len cap) (hi : Cx.ev n f ix = .int kk i)
    (ht : look Γ t = some ⟨.slice e, s1, z1, b1⟩) (he : look Γ e = some ⟨de, s2, z2, b2⟩) (hs : SlT enc s2 a ts h) (hlen : ts.length = len) (h0 : 0 ≤ i) (h1 : i < (len : Int)) (hj : i.toNat = j)
    (k : J P n w0 R l0 K rest (upd f d (pel a s2 j 0)) L) : J P n w0 R l0 K ((κ, ⟨some d, .indexAddr t x ix, ty, pos, aft, g⟩) :: rest) f L := by
  subst hj
  exact J.idx hΓ hg hx hi ht he hs hlen h0 h1 k
theorem J.idxC {t e : TypeId} {bb o : Nat} {s1 s2 : Nat} {z1 z2 : Option Value} {b1 b2 : Nat} {de : TypeDesc} {x ix : Operand} {len cap : Nat} {kk : IntKind} {i : Int} (hΓ : Fits P Γ) (hg : wantB n f l0 ⟨some d, .indexAddr t x ix, ty, pos, aft, g⟩ = true) (hx : Cx.ev n f x = .slice (some ⟨bb, o, none⟩) len cap) (hi : Cx.ev n f ix = .int kk i)
    (ht : look Γ t = some ⟨.slice e, s1, z1, b1⟩) (he : look Γ e = some ⟨de, s2, z2, b2⟩) (h0 : 0 ≤ i) (h1 : i < (len : Int))
    (k : J P n w0 R l0 K rest (upd f d (.pointer (some ⟨bb, o + i.toNat * s2, none⟩))) L) : J P n w0 R l0 K ((κ, ⟨some d, .indexAddr t x ix, ty, pos, aft, g⟩) :: rest) f L :=
  J.p hg (fun w => by
    have hu := (hΓ t _ ht).1
    have hsz := sizeOf_run hΓ he w
    have hadd : (⟨bb, o, none⟩ : Addr).add (i.toNat * s2) = ⟨bb, o + i.toNat * s2, none⟩ := by
      unfold Addr.add
      split
      · rename_i h0; rw [h0]; rfl
      · rfl
    have : (Instr.indexAt t (.slice (some ⟨bb, o, none⟩) len cap) (.int kk i)).run P w = .ok (.pointer (some ⟨bb, o + i.toNat * s2, none⟩)) w := by
      unfold Instr.indexAt
      simp only [asIntOf, Sem.run_bind, Sem.run_pure, Result.andThen_ok, run_underlying hu]
      rw [if_pos ⟨h0, h1⟩]
      simp only [Sem.run_bind, hsz, Result.andThen_ok, hadd]
      rfl
    simp only [execOp, hx, hi, Sem.run_bind]
    rw [this]
    rfl) k
def callOf : Op → Option Nat
  | .call ⟨.value (.func k), _, _⟩ => some k
  | _ => none
end
theorem calls_in {P : Program} {fid : FuncId} {fn : Func} {c : Code} {n : Nat} {args : List Value} {w w0 : World} {R : Heap} {L : List Heap} {Post : Ending → World → Prop}
    (hf : P.funcs[fid]? = some fn) (hn : fn.ntmps = n) (hb : fn.body = some c) (hsz : Nat.ble args.length n = true) (hH : H w0 R L w) (h : JC P n w0 R c (retK P fn n w0 R Post) (fr0 args) L) : Calls P fid args.toArray w Post := by
  refine calls_of_wp hf hb ?_
  rw [hn]
  refine wp_mono (h _ w (fr0_rep (Nat.le_of_ble_eq_true hsz)) hH) ?_
  intro e a' w' q
  cases e with
  | normal =>
    obtain ⟨f', L', ha', hw', hk⟩ := q
    obtain ⟨v, h1, h2⟩ := hk a' w' ha' hw'
    exact ⟨ha'.2.1, v, h1, h2⟩
  | ret =>
    obtain ⟨f', L', ha', hw', hk⟩ := q
    obtain ⟨v, h1, h2⟩ := hk a' w' ha' hw'
    exact ⟨ha'.2.1, v, h1, h2⟩
  | exit i => obtain ⟨_, _, _, _, hk⟩ := q; exact hk.elim
  | goto i => obtain ⟨_, _, _, _, hk⟩ := q; exact hk.elim
  | panic i => obtain ⟨_, _, _, _, hk⟩ := q; exact hk.elim
  | outgrown => exact q.elim
theorem Gives.of {w0 w : World} {R h : Heap} {L : List Heap} {v : Value} {Φ : Value → Heap → Prop} (hw : H w0 R (h :: L) w) (hk : Φ v h) : Gives Φ w0 (.returned v) w :=
  ⟨v, h, rfl, hw.below, fun x hx => hw.own x (List.mem_append_left _ hx), fun x hx => hw.new x (List.mem_append_left _ hx), by
    have := hw.nodup
    rw [List.flatten_cons, List.map_append] at this
    exact (List.nodup_append.1 this).1, hk⟩
theorem H.nilF {w0 w : World} {R : Heap} {L : List Heap} (h : H w0 R L w) : H w0 R ([] :: L) w := ⟨h.below, h.old, h.own, h.new, h.nodup⟩
theorem JC.nilF {P : Program} {n : Nat} {w0 : World} {R : Heap} {K : Exit → Fr → List Heap → Prop} {f : Fr} {L : List Heap} {c : Code} (k : JC P n w0 R c K f ([] :: L)) : JC P n w0 R c K f L := fun a w ha hw => k a w ha hw.nilF
section
variable {P : Program} {fn : Func} {n : Nat} {w0 : World} {R : Heap} {Post : Ending → World → Prop} {f : Fr} {L : List Heap} {Γ : List (Nat × TI)}
theorem retC {t ty b : Nat} {cs : List Value} {e : TypeId} {fr : Nat × Nat} {v : Value} (hΓ : Fits P Γ) (hr : fn.results = #[.cell t ty]) (ht : Nat.blt t n = true) (hv : f t = .pointer (some ⟨b, 0, none⟩)) (hb : Rd R L b (.cells ⟨cs⟩ e fr)) (hl : ldEv Γ ty cs 0 = some v)
    (h : ∀ w, H w0 R L w → Post (.returned v) w) : retK P fn n w0 R Post .ret f L := fun a w ha hw => by
  refine ⟨v, ?_, h w hw⟩
  have h1 := ldEv_ok (P := P) hΓ (hw.rd hb) hl
  unfold Instr.loadAt Instr.sureAddr at h1
  simp only [Sem.run_bind, Sem.run_pure, Result.andThen_ok] at h1
  have h2 := ha.getD ht
  rw [hv] at h2
  have h3 : a.tmps[t]?.getD undef = .pointer (some ⟨b, 0, none⟩) := by rw [← h2]; simp [Array.getD_eq_getD_getElem?]
  simp only [results, hr]
  simp [h3, asAddr, Sem.run_bind]
  exact h1
end
end Go.Cx
namespace Go.Cx
open Go Go.RowKit
set_option linter.unusedVariables false
set_option linter.unusedSimpArgs false
theorem toNat0 : (0 : Int).toNat = 0 := rfl
theorem toNat1 : (1 : Int).toNat = 1 := rfl
def S (l : List UInt8) : ByteArray := ⟨⟨l⟩⟩
theorem S_toList (l : List UInt8) : (S l).toList = l := by
  rw [ByteArray.toList_eq]; rfl
theorem S_get (l : List UInt8) (i : Nat) (h : i < l.length) : (S l)[i]? = some (l.getD i 0) := by
  have hb : i < (S l).size := h
  have : (S l)[i]? = some (S l)[i] := by simp [hb]
  rw [this]
  congr 1
  rw [List.getD_eq_getElem?_getD, List.getElem?_eq_getElem h]
  rfl
section
variable {P : Program} {n : Nat} {w0 : World} {R : Heap} {l0 : List Oper} {K : Exit → Fr → List Heap → Prop} {f : Fr} {L : List Heap} {rest : List (Nat × Oper)} {κ : Nat}
variable {Γ : List (Nat × TI)} {d : Nat} {op : Op} {ty : TypeId} {pos : String} {aft : Array Edge} {g : Option (Nat × Bool)} {t u : TypeId} {x y : Operand} {a b : List UInt8}
theorem strs_run {bo : BinOp} {v : Value} {dst : Option Tmp} (hx : Cx.ev n f x = .string (S a)) (hy : Cx.ev n f y = .string (S b)) (h : ∀ w, (Op.stringOp bo (S a) (S b)).run P w = .ok v w) (hb : bo = .add ∨ bo = .eql ∨ bo = .neq) (w : World) :
    (execOp (Cx.ev n f) ⟨dst, .binOp bo t x y u, ty, pos, aft, g⟩).run P w = .ok (.value v) w := by
  simp only [execOp, hx, hy]
  have : (eqGuard bo t x y (.string (S a)) (.string (S b))).run P w = .ok () w := by rcases hb with rfl | rfl | rfl <;> rfl
  have h2 : (binOp bo t (.string (S a)) (.string (S b))).run P w = .ok v w := by rcases hb with rfl | rfl | rfl <;> simpa [binOp] using h w
  simp only [Sem.run_bind]
  rw [this]
  simp only [Result.andThen_ok]
  rw [h2]
  rfl
theorem J.eqS (hg : wantB n f l0 ⟨some d, .binOp .eql t x y u, ty, pos, aft, g⟩ = true) (hx : Cx.ev n f x = .string (S a)) (hy : Cx.ev n f y = .string (S b))
    (k : J P n w0 R l0 K rest (upd f d (.bool (a == b))) L) : J P n w0 R l0 K ((κ, ⟨some d, .binOp .eql t x y u, ty, pos, aft, g⟩) :: rest) f L :=
  J.p hg (strs_run hx hy (fun w => by
    unfold Op.stringOp
    simp only [S_toList]
    rfl) (.inr (.inl rfl))) k
theorem J.lenS (hΓ : Fits P Γ) (hg : wantB n f l0 ⟨some d, .call ⟨.builtin .len, ⟨[x]⟩, ⟨[t]⟩⟩, ty, pos, aft, g⟩ = true) (hx : Cx.ev n f x = .string (S a)) (h : pureEv Γ (Cx.ev n f) (.call ⟨.builtin .len, ⟨[x]⟩, ⟨[t]⟩⟩) = some (.int .i64 ((S a).size : Int)))
    (k : J P n w0 R l0 K rest (upd f d (.int .i64 (a.length : Int))) L) : J P n w0 R l0 K ((κ, ⟨some d, .call ⟨.builtin .len, ⟨[x]⟩, ⟨[t]⟩⟩, ty, pos, aft, g⟩) :: rest) f L :=
  J.ev hΓ hg h k
theorem J.ixS {ki : IntKind} {i : Int} {j : Nat} {s1 b1 : Nat} {z1 : Option Value} (hΓ : Fits P Γ) (hg : wantB n f l0 ⟨some d, .index t x y, ty, pos, aft, g⟩ = true) (hx : Cx.ev n f x = .string (S a)) (hy : Cx.ev n f y = .int ki i) (ht : look Γ t = some ⟨.string, s1, z1, b1⟩) (h0 : 0 ≤ i) (h1 : i < (a.length : Int)) (hj : i.toNat = j)
    (k : J P n w0 R l0 K rest (upd f d (.int .u8 ((a.getD j 0).toNat : Int))) L) : J P n w0 R l0 K ((κ, ⟨some d, .index t x y, ty, pos, aft, g⟩) :: rest) f L :=
  J.p hg (fun w => by
    subst hj
    have hu := (hΓ t _ ht).1
    have : (Instr.index t (.string (S a)) (.int ki i)).run P w = .ok (.int .u8 ((a.getD i.toNat 0).toNat : Int)) w := by
      unfold Instr.index
      simp only [asIntOf, Sem.run_bind, Sem.run_pure, Result.andThen_ok, run_underlying hu]
      rw [if_pos h0, S_get a _ (by omega)]
      rfl
    simp only [execOp, hx, hy, Sem.run_bind]
    rw [this]
    rfl) k
theorem J.mkf {fn : Fn} {ars cs : List Operand} (hΓ : Fits P Γ) (hg : wantB n f l0 ⟨some d, .makeFunc fn ⟨ars⟩ ⟨cs⟩, ty, pos, aft, g⟩ = true)
    (k : J P n w0 R l0 K rest (upd f d (.func fn ⟨ars.map (Cx.ev n f)⟩ ⟨cs.map (Cx.ev n f)⟩)) L) : J P n w0 R l0 K ((κ, ⟨some d, .makeFunc fn ⟨ars⟩ ⟨cs⟩, ty, pos, aft, g⟩) :: rest) f L :=
  J.ev hΓ hg (by simp [pureEv]) k
end
end Go.Cx
namespace Go.Cx
open Go Go.RowKit
set_option linter.unusedVariables false
def okS (s : Nat × Nat) : Prop := s.1 < 2 ^ 64 ∧ s.2 < 2 ^ 64
theorem pow64 {j : Nat} (h : j < 64) : 2 ^ j < 2 ^ 64 := Nat.pow_lt_pow_right (by omega) h
section
variable {P : Program} {n : Nat} {w0 : World} {R : Heap} {l0 : List Oper} {K : Exit → Fr → List Heap → Prop} {f : Fr} {L : List Heap} {rest : List (Nat × Oper)} {κ : Nat}
variable {Γ : List (Nat × TI)} {d : Nat} {op : Op} {ty : TypeId} {pos : String} {aft : Array Edge} {g : Option (Nat × Bool)}
theorem J.ev' {v : Value} (hΓ : Fits P Γ) (k : J P n w0 R l0 K rest (upd f d v) L) (hg : wantB n f l0 ⟨some d, op, ty, pos, aft, g⟩ = true := by exact rfl) (h : pureEv Γ (Cx.ev n f) op = some v := by exact rfl) : J P n w0 R l0 K ((κ, ⟨some d, op, ty, pos, aft, g⟩) :: rest) f L := J.ev hΓ hg h k
end
section
variable {P : Program} {n : Nat} {w0 : World} {R : Heap} {l0 : List Oper} {K : Exit → Fr → List Heap → Prop} {f : Fr} {L : List Heap} {rest : List (Nat × Oper)} {κ : Nat}
variable {Γ : List (Nat × TI)} {d : Nat} {op : Op} {ty : TypeId} {pos : String} {aft : Array Edge} {g : Option (Nat × Bool)}
theorem J.kd (k : J P n w0 R l0 K rest (upd f d undef) L) (hg : wantB n f l0 ⟨some d, op, ty, pos, aft, g⟩ = false := by exact rfl) : J P n w0 R l0 K ((κ, ⟨some d, op, ty, pos, aft, g⟩) :: rest) f L := J.skd hg k
end
section
variable {P : Program} {n : Nat} {w0 : World} {R : Heap} {l0 : List Oper} {K : Exit → Fr → List Heap → Prop} {f : Fr} {L : List Heap} {rest : List (Nat × Oper)} {κ : Nat}
variable {Γ : List (Nat × TI)} {d : Nat} {op : Op} {ty : TypeId} {pos : String} {aft : Array Edge} {g : Option (Nat × Bool)}
variable {t : TypeId} {x : Operand} {b off : Nat} {cs : List Value} {e : TypeId} {fr : Nat × Nat} {v : Value} {a1 a2 a3 a4 : Heap}
theorem J.e0 (hΓ : Fits P Γ) (k : J P n w0 R l0 K rest (upd f d v) ([(b, .cells ⟨cs⟩ e fr)] :: L)) (hg : wantB n f l0 ⟨some d, .load t x, ty, pos, aft, g⟩ = true := by exact rfl) (hp : Cx.ev n f x = .pointer (some ⟨b, off, none⟩) := by exact rfl) (hv : ldEv Γ t cs off = some v := by exact rfl) : J P n w0 R l0 K ((κ + 1, ⟨some d, .load t x, ty, pos, aft, g⟩) :: rest) f ([(b, .cells ⟨cs⟩ e fr)] :: L) := J.load0 hΓ hg hp hv k
end
section
variable {P : Program} {n : Nat} {w0 : World} {R : Heap} {l0 : List Oper} {K : Exit → Fr → List Heap → Prop} {f : Fr} {L : List Heap} {rest : List (Nat × Oper)} {κ : Nat}
variable {Γ : List (Nat × TI)} {d : Nat} {op : Op} {ty : TypeId} {pos : String} {aft : Array Edge} {g : Option (Nat × Bool)}
variable {t : TypeId} {x : Operand} {b off : Nat} {cs : List Value} {e : TypeId} {fr : Nat × Nat} {v : Value} {a1 a2 a3 a4 : Heap}
theorem J.e1 (hΓ : Fits P Γ) (k : J P n w0 R l0 K rest (upd f d v) (a1 :: [(b, .cells ⟨cs⟩ e fr)] :: L)) (hg : wantB n f l0 ⟨some d, .load t x, ty, pos, aft, g⟩ = true := by exact rfl) (hp : Cx.ev n f x = .pointer (some ⟨b, off, none⟩) := by exact rfl) (hv : ldEv Γ t cs off = some v := by exact rfl) : J P n w0 R l0 K ((κ + 1, ⟨some d, .load t x, ty, pos, aft, g⟩) :: rest) f (a1 :: [(b, .cells ⟨cs⟩ e fr)] :: L) := J.load1 hΓ hg hp hv k
end
section
variable {P : Program} {n : Nat} {w0 : World} {R : Heap} {l0 : List Oper} {K : Exit → Fr → List Heap → Prop} {f : Fr} {L : List Heap} {rest : List (Nat × Oper)} {κ : Nat}
variable {Γ : List (Nat × TI)} {d : Nat} {op : Op} {ty : TypeId} {pos : String} {aft : Array Edge} {g : Option (Nat × Bool)}
variable {t : TypeId} {x : Operand} {b off : Nat} {cs : List Value} {e : TypeId} {fr : Nat × Nat} {v : Value} {a1 a2 a3 a4 : Heap}
theorem J.e3 (hΓ : Fits P Γ) (k : J P n w0 R l0 K rest (upd f d v) (a1 :: a2 :: a3 :: [(b, .cells ⟨cs⟩ e fr)] :: L)) (hg : wantB n f l0 ⟨some d, .load t x, ty, pos, aft, g⟩ = true := by exact rfl) (hp : Cx.ev n f x = .pointer (some ⟨b, off, none⟩) := by exact rfl) (hv : ldEv Γ t cs off = some v := by exact rfl) : J P n w0 R l0 K ((κ + 1, ⟨some d, .load t x, ty, pos, aft, g⟩) :: rest) f (a1 :: a2 :: a3 :: [(b, .cells ⟨cs⟩ e fr)] :: L) := J.load3 hΓ hg hp hv k
end
section
variable {P : Program} {n : Nat} {w0 : World} {R : Heap} {l0 : List Oper} {K : Exit → Fr → List Heap → Prop} {f : Fr} {L : List Heap} {rest : List (Nat × Oper)} {κ : Nat}
variable {Γ : List (Nat × TI)} {d : Nat} {op : Op} {ty : TypeId} {pos : String} {aft : Array Edge} {g : Option (Nat × Bool)}
theorem J.lR {t : TypeId} {x : Operand} {b off : Nat} {cs : List Value} {e : TypeId} {fr : Nat × Nat} {v : Value} (hΓ : Fits P Γ) (k : J P n w0 R l0 K rest (upd f d v) L) (hg : wantB n f l0 ⟨some d, .load t x, ty, pos, aft, g⟩ = true := by exact rfl) (hp : Cx.ev n f x = .pointer (some ⟨b, off, none⟩) := by exact rfl) (hr : Rd R L b (.cells ⟨cs⟩ e fr) := by first | assumption | exact Rd.tl (by assumption) | exact Rd.tl (Rd.tl (by assumption)) | exact Rd.hd | exact Rd.hd.tl | exact Rd.hd.tl.tl | exact Rd.hd.tl.tl.tl | exact Rd.hd.tl.tl.tl.tl | exact Rd.hd.tl.tl.tl.tl.tl | exact Rd.hd.tl.tl.tl.tl.tl.tl | exact Rd.hd.tl.tl.tl.tl.tl.tl.tl | exact Rd.hd.tl.tl.tl.tl.tl.tl.tl.tl | exact Rd.hd.tl.tl.tl.tl.tl.tl.tl.tl.tl | exact Rd.hd.tl.tl.tl.tl.tl.tl.tl.tl.tl.tl | exact Rd.hd.tl.tl.tl.tl.tl.tl.tl.tl.tl.tl.tl | exact Rd.hd.tl.tl.tl.tl.tl.tl.tl.tl.tl.tl.tl.tl) (hv : ldEv Γ t cs off = some v := by exact rfl) : J P n w0 R l0 K ((κ + 1, ⟨some d, .load t x, ty, pos, aft, g⟩) :: rest) f L := J.load hΓ hg hp hr hv k
end
section
variable {P : Program} {n : Nat} {w0 : World} {R : Heap} {l0 : List Oper} {K : Exit → Fr → List Heap → Prop} {f : Fr} {L : List Heap} {rest : List (Nat × Oper)} {κ : Nat}
variable {Γ : List (Nat × TI)} {d : Nat} {op : Op} {ty : TypeId} {pos : String} {aft : Array Edge} {g : Option (Nat × Bool)}
variable {α : Type} {enc : α → List Value} {a : Option Addr} {ts : List α} {h : Heap}
theorem J.lT {t : TypeId} {sz k o : Nat} {x : Operand} {v : Value} (dflt : α) (hΓ : Fits P Γ) (kk : J P n w0 R l0 K rest (upd f d v) L) (hg : wantB n f l0 ⟨some d, .load t x, ty, pos, aft, g⟩ = true := by exact rfl) (hx : Cx.ev n f x = pel a sz k o := by exact rfl) (hs : SlT enc sz a ts h := by first | assumption | exact OwT.sl (by assumption)) (hr : RdH R L h := by first | exact RdH.hd | exact RdH.hd.tl | exact RdH.hd.tl.tl | exact RdH.hd.tl.tl.tl | exact RdH.hd.tl.tl.tl.tl | exact RdH.hd.tl.tl.tl.tl.tl | exact RdH.hd.tl.tl.tl.tl.tl.tl | exact RdH.hd.tl.tl.tl.tl.tl.tl.tl | exact RdH.hd.tl.tl.tl.tl.tl.tl.tl.tl | exact RdH.hd.tl.tl.tl.tl.tl.tl.tl.tl.tl | exact RdH.hd.tl.tl.tl.tl.tl.tl.tl.tl.tl.tl | exact RdH.hd.tl.tl.tl.tl.tl.tl.tl.tl.tl.tl.tl | exact RdH.hd.tl.tl.tl.tl.tl.tl.tl.tl.tl.tl.tl.tl | exact RdH.old (fun _ hh => hh) | assumption) (hk : k < ts.length := by first | omega | exact Nat.le_of_ble_eq_true rfl | (simp only [List.length_set, List.length_append, List.length_cons, List.length_nil]; omega)) (hv : ldEv Γ t (enc (ts.getD k dflt)) o = some v := by exact rfl) : J P n w0 R l0 K ((κ + 1, ⟨some d, .load t x, ty, pos, aft, g⟩) :: rest) f L := J.ldT dflt hΓ hg hx hs hr hk hv kk
end
section
variable {P : Program} {n : Nat} {w0 : World} {R : Heap} {l0 : List Oper} {K : Exit → Fr → List Heap → Prop} {f : Fr} {L : List Heap} {rest : List (Nat × Oper)} {κ : Nat}
variable {Γ : List (Nat × TI)} {d : Nat} {op : Op} {ty : TypeId} {pos : String} {aft : Array Edge} {g : Option (Nat × Bool)} {t u : TypeId} {x y : Operand} {a b : Int}
theorem J.iA {m : Nat} {e : TypeId} {i : Int} {j : Nat} {ki : IntKind} {bb o : Nat} {s1 s2 b1 b2 : Nat} {z1 z2 : Option Value} {de : TypeDesc} (hΓ : Fits P Γ) (k : J P n w0 R l0 K rest (upd f d (.pointer (some ⟨bb, o + j * s2, none⟩))) L) (hg : wantB n f l0 ⟨some d, .indexAddr t x y, ty, pos, aft, g⟩ = true := by exact rfl) (hx : Cx.ev n f x = .pointer (some ⟨bb, o, none⟩) := by exact rfl) (hy : Cx.ev n f y = .int ki i := by exact rfl) (ht : look Γ t = some ⟨.array m e, s1, z1, b1⟩ := by exact rfl) (he : look Γ e = some ⟨de, s2, z2, b2⟩ := by exact rfl) (h0 : 0 ≤ i := by omega) (hi : i < (m : Int) := by omega) (hj : i.toNat = j := by first | (show _ = 0; omega) | (show _ = 1; omega) | exact rfl) : J P n w0 R l0 K ((κ, ⟨some d, .indexAddr t x y, ty, pos, aft, g⟩) :: rest) f L := J.idxA hΓ hg hx hy ht he h0 hi hj k
end
section
variable {P : Program} {n : Nat} {w0 : World} {R : Heap} {l0 : List Oper} {K : Exit → Fr → List Heap → Prop} {f : Fr} {L : List Heap} {rest : List (Nat × Oper)} {κ : Nat}
variable {Γ : List (Nat × TI)} {d : Nat} {op : Op} {ty : TypeId} {pos : String} {aft : Array Edge} {g : Option (Nat × Bool)} {t u : TypeId} {x y : Operand} {a b : Int}
theorem J.iJ {α : Type} {enc : α → List Value} {a : Option Addr} {ts : List α} {h : Heap} {t e : TypeId} {s1 s2 : Nat} {z1 z2 : Option Value} {b1 b2 : Nat} {de : TypeDesc} {x ix : Operand} {len cap : Nat} {kk : IntKind} {i : Int} {j : Nat} (hΓ : Fits P Γ) (k : J P n w0 R l0 K rest (upd f d (pel a s2 j 0)) L) (hg : wantB n f l0 ⟨some d, .indexAddr t x ix, ty, pos, aft, g⟩ = true := by exact rfl) (hx : Cx.ev n f x = .slice a len cap := by exact rfl) (hi : Cx.ev n f ix = .int kk i := by exact rfl) (ht : look Γ t = some ⟨.slice e, s1, z1, b1⟩ := by exact rfl) (he : look Γ e = some ⟨de, s2, z2, b2⟩ := by exact rfl) (hs : SlT enc s2 a ts h := by first | assumption | exact OwT.sl (by assumption)) (hlen : ts.length = len := by first | rfl | assumption | omega | (simp only [List.length_set, List.length_append, List.length_cons, List.length_nil]; omega)) (h0 : 0 ≤ i := by omega) (h1 : i < (len : Int) := by first | omega | (simp only [List.length_append, List.length_cons, List.length_nil]; omega)) (hj : i.toNat = j := by first | (with_reducible exact Int.toNat_natCast _) | (with_reducible exact toNat0) | (with_reducible exact toNat1) | exact rfl) : J P n w0 R l0 K ((κ, ⟨some d, .indexAddr t x ix, ty, pos, aft, g⟩) :: rest) f L := J.idxJ hΓ hg hx hi ht he hs hlen h0 h1 hj k
end
section
variable {P : Program} {n : Nat} {w0 : World} {R : Heap} {l0 : List Oper} {K : Exit → Fr → List Heap → Prop} {f : Fr} {L : List Heap} {rest : List (Nat × Oper)} {κ : Nat}
variable {Γ : List (Nat × TI)} {d : Nat} {op : Op} {ty : TypeId} {pos : String} {aft : Array Edge} {g : Option (Nat × Bool)}
variable {α : Type} {enc : α → List Value} {a : Option Addr} {ts : List α} {h : Heap}
theorem J.fP {t : TypeId} {i sz k o : Nat} {x : Operand} {fs : Array Field} {fd : Field} {s1 s2 b1 b2 : Nat} {z1 z2 : Option Value} {de : TypeDesc} (hΓ : Fits P Γ) (kk : J P n w0 R l0 K rest (upd f d (pel a sz k (o + fd.offset))) L) (hg : wantB n f l0 ⟨some d, .fieldAddr t x i, ty, pos, aft, g⟩ = true := by exact rfl) (hx : Cx.ev n f x = pel a sz k o := by exact rfl) (ht : look Γ t = some ⟨.struct fs, s1, z1, b1⟩ := by exact rfl) (hf : fs[i]? = some fd := by exact rfl) (hl : look Γ fd.type = some ⟨de, s2, z2, b2⟩ := by exact rfl) (hn : Nat.beq s2 0 = false := by exact rfl) : J P n w0 R l0 K ((κ, ⟨some d, .fieldAddr t x i, ty, pos, aft, g⟩) :: rest) f L := J.fldP hΓ hg hx ht hf hl hn kk
end
section
variable {P : Program} {n : Nat} {w0 : World} {R : Heap} {l0 : List Oper} {K : Exit → Fr → List Heap → Prop} {f : Fr} {L : List Heap} {rest : List (Nat × Oper)} {κ : Nat}
variable {Γ : List (Nat × TI)} {d : Nat} {op : Op} {ty : TypeId} {pos : String} {aft : Array Edge} {g : Option (Nat × Bool)} {t u : TypeId} {x y : Operand} {a b : Int}
theorem J.iC {t e : TypeId} {bb o : Nat} {s1 s2 : Nat} {z1 z2 : Option Value} {b1 b2 : Nat} {de : TypeDesc} {x ix : Operand} {len cap : Nat} {kk : IntKind} {i : Int} (hΓ : Fits P Γ) (k : J P n w0 R l0 K rest (upd f d (.pointer (some ⟨bb, o + i.toNat * s2, none⟩))) L) (hg : wantB n f l0 ⟨some d, .indexAddr t x ix, ty, pos, aft, g⟩ = true := by exact rfl) (hx : Cx.ev n f x = .slice (some ⟨bb, o, none⟩) len cap := by exact rfl) (hi : Cx.ev n f ix = .int kk i := by exact rfl) (ht : look Γ t = some ⟨.slice e, s1, z1, b1⟩ := by exact rfl) (he : look Γ e = some ⟨de, s2, z2, b2⟩ := by exact rfl) (h0 : 0 ≤ i := by omega) (h1 : i < (len : Int) := by omega) : J P n w0 R l0 K ((κ, ⟨some d, .indexAddr t x ix, ty, pos, aft, g⟩) :: rest) f L := J.idxC hΓ hg hx hi ht he h0 h1 k
end
section
variable {P : Program} {n : Nat} {w0 : World} {R : Heap} {l0 : List Oper} {K : Exit → Fr → List Heap → Prop} {f : Fr} {L : List Heap} {rest : List (Nat × Oper)} {κ : Nat}
variable {Γ : List (Nat × TI)} {d : Nat} {op : Op} {ty : TypeId} {pos : String} {aft : Array Edge} {g : Option (Nat × Bool)} {t u : TypeId} {x y : Operand} {a b : Int}
theorem J.ad (k : J P n w0 R l0 K rest (upd f d (.int .i64 (a + b))) L) (hg : wantB n f l0 ⟨some d, .binOp .add t x y u, ty, pos, aft, g⟩ = true := by exact rfl) (hx : Cx.ev n f x = .int .i64 a := by exact rfl) (hy : Cx.ev n f y = .int .i64 b := by exact rfl) (h : -9223372036854775808 ≤ a + b ∧ a + b ≤ 9223372036854775807 := by omega) : J P n w0 R l0 K ((κ, ⟨some d, .binOp .add t x y u, ty, pos, aft, g⟩) :: rest) f L := J.addN hg hx hy h k
end
section
variable {P : Program} {n : Nat} {w0 : World} {R : Heap} {l0 : List Oper} {K : Exit → Fr → List Heap → Prop} {f : Fr} {L : List Heap} {rest : List (Nat × Oper)} {κ : Nat}
variable {Γ : List (Nat × TI)} {d : Nat} {op : Op} {ty : TypeId} {pos : String} {aft : Array Edge} {g : Option (Nat × Bool)} {t u : TypeId} {x y : Operand} {a b : Int}
theorem J.sb (k : J P n w0 R l0 K rest (upd f d (.int .i64 (a - b))) L) (hg : wantB n f l0 ⟨some d, .binOp .sub t x y u, ty, pos, aft, g⟩ = true := by exact rfl) (hx : Cx.ev n f x = .int .i64 a := by exact rfl) (hy : Cx.ev n f y = .int .i64 b := by exact rfl) (h : -9223372036854775808 ≤ a - b ∧ a - b ≤ 9223372036854775807 := by omega) : J P n w0 R l0 K ((κ, ⟨some d, .binOp .sub t x y u, ty, pos, aft, g⟩) :: rest) f L := J.subN hg hx hy h k
end
section
variable {P : Program} {n : Nat} {w0 : World} {R : Heap} {l0 : List Oper} {K : Exit → Fr → List Heap → Prop} {f : Fr} {L : List Heap} {rest : List (Nat × Oper)} {κ : Nat}
variable {Γ : List (Nat × TI)} {d : Nat} {op : Op} {ty : TypeId} {pos : String} {aft : Array Edge} {g : Option (Nat × Bool)} {t u : TypeId} {x y : Operand} {a b : Int}
theorem J.mu (k : J P n w0 R l0 K rest (upd f d (.int .i64 (a * b))) L) (hg : wantB n f l0 ⟨some d, .binOp .mul t x y u, ty, pos, aft, g⟩ = true := by exact rfl) (hx : Cx.ev n f x = .int .i64 a := by exact rfl) (hy : Cx.ev n f y = .int .i64 b := by exact rfl) (h : -9223372036854775808 ≤ a * b ∧ a * b ≤ 9223372036854775807 := by omega) : J P n w0 R l0 K ((κ, ⟨some d, .binOp .mul t x y u, ty, pos, aft, g⟩) :: rest) f L := J.mulN hg hx hy h k
end
section
variable {P : Program} {n : Nat} {w0 : World} {R : Heap} {l0 : List Oper} {K : Exit → Fr → List Heap → Prop} {f : Fr} {L : List Heap} {rest : List (Nat × Oper)} {κ : Nat}
variable {Γ : List (Nat × TI)} {d : Nat} {op : Op} {ty : TypeId} {pos : String} {aft : Array Edge} {g : Option (Nat × Bool)} {t u : TypeId} {x y : Operand} {a b : Int}
theorem J.ng (k : J P n w0 R l0 K rest (upd f d (.int .i64 (-a))) L) (hg : wantB n f l0 ⟨some d, .unOp .neg t x, ty, pos, aft, g⟩ = true := by exact rfl) (hx : Cx.ev n f x = .int .i64 a := by exact rfl) (h : -9223372036854775807 ≤ a ∧ a ≤ 9223372036854775807 := by omega) : J P n w0 R l0 K ((κ, ⟨some d, .unOp .neg t x, ty, pos, aft, g⟩) :: rest) f L := J.negN hg hx h k
end
section
variable {P : Program} {n : Nat} {w0 : World} {R : Heap} {l0 : List Oper} {K : Exit → Fr → List Heap → Prop} {f : Fr} {L : List Heap} {rest : List (Nat × Oper)} {κ : Nat}
variable {Γ : List (Nat × TI)} {d : Nat} {op : Op} {ty : TypeId} {pos : String} {aft : Array Edge} {g : Option (Nat × Bool)} {t u : TypeId} {x y : Operand} {a b : Int}
theorem J.qu (k : J P n w0 R l0 K rest (upd f d (.int .i64 (a / b))) L) (hg : wantB n f l0 ⟨some d, .binOp .quo t x y u, ty, pos, aft, g⟩ = true := by exact rfl) (hx : Cx.ev n f x = .int .i64 a := by exact rfl) (hy : Cx.ev n f y = .int .i64 b := by exact rfl) (h0 : 0 ≤ a := by omega) (h1 : a ≤ 9223372036854775807 := by omega) (h2 : 1 ≤ b := by omega) : J P n w0 R l0 K ((κ, ⟨some d, .binOp .quo t x y u, ty, pos, aft, g⟩) :: rest) f L := J.quo hg hx hy h0 h1 h2 k
end
section
variable {P : Program} {n : Nat} {w0 : World} {R : Heap} {l0 : List Oper} {K : Exit → Fr → List Heap → Prop} {f : Fr} {L : List Heap} {rest : List (Nat × Oper)} {κ : Nat}
variable {Γ : List (Nat × TI)} {d : Nat} {op : Op} {ty : TypeId} {pos : String} {aft : Array Edge} {g : Option (Nat × Bool)} {t u : TypeId} {x y : Operand} {a b : Int}
theorem J.rm {k1 : IntKind} (k : J P n w0 R l0 K rest (upd f d (.int k1 (a % b))) L) (hg : wantB n f l0 ⟨some d, .binOp .rem t x y u, ty, pos, aft, g⟩ = true := by exact rfl) (hx : Cx.ev n f x = .int k1 a := by exact rfl) (hy : Cx.ev n f y = .int k1 b := by exact rfl) (h0 : 0 ≤ a := by first | omega | exact Int.natCast_nonneg _) (h2 : 1 ≤ b := by omega) : J P n w0 R l0 K ((κ, ⟨some d, .binOp .rem t x y u, ty, pos, aft, g⟩) :: rest) f L := J.rem hg hx hy h0 h2 k
end
section
variable {P : Program} {n : Nat} {w0 : World} {R : Heap} {l0 : List Oper} {K : Exit → Fr → List Heap → Prop} {f : Fr} {L : List Heap} {rest : List (Nat × Oper)} {κ : Nat}
variable {Γ : List (Nat × TI)} {d : Nat} {op : Op} {ty : TypeId} {pos : String} {aft : Array Edge} {g : Option (Nat × Bool)} {t u : TypeId} {x y : Operand} {a b : Int}
theorem J.s1 {yk : IntKind} {j : Int} (k : J P n w0 R l0 K rest (upd f d (.int .u64 ((2 ^ j.toNat : Nat) : Int))) L) (hg : wantB n f l0 ⟨some d, .binOp .shl t x y u, ty, pos, aft, g⟩ = true := by exact rfl) (hx : Cx.ev n f x = .int .u64 1 := by exact rfl) (hy : Cx.ev n f y = .int yk j := by exact rfl) (h0 : 0 ≤ j := by omega) (h1 : j < 64 := by omega) : J P n w0 R l0 K ((κ, ⟨some d, .binOp .shl t x y u, ty, pos, aft, g⟩) :: rest) f L := J.shl1 hg hx hy h0 h1 k
end
section
variable {P : Program} {n : Nat} {w0 : World} {R : Heap} {l0 : List Oper} {K : Exit → Fr → List Heap → Prop} {f : Fr} {L : List Heap} {rest : List (Nat × Oper)} {κ : Nat}
variable {Γ : List (Nat × TI)} {d : Nat} {op : Op} {ty : TypeId} {pos : String} {aft : Array Edge} {g : Option (Nat × Bool)} {t u : TypeId} {x y : Operand} {a b : Int}
theorem J.sr {yk : IntKind} {j : Int} {m : Nat} (k : J P n w0 R l0 K rest (upd f d (.int .u64 ((m / 2 ^ j.toNat : Nat) : Int))) L) (hg : wantB n f l0 ⟨some d, .binOp .shr t x y u, ty, pos, aft, g⟩ = true := by exact rfl) (hx : Cx.ev n f x = .int .u64 (m : Int) := by exact rfl) (hy : Cx.ev n f y = .int yk j := by exact rfl) (h0 : 0 ≤ j := by omega) (h1 : j < 64 := by omega) : J P n w0 R l0 K ((κ, ⟨some d, .binOp .shr t x y u, ty, pos, aft, g⟩) :: rest) f L := J.shrW hg hx hy h0 h1 k
end
section
variable {P : Program} {n : Nat} {w0 : World} {R : Heap} {l0 : List Oper} {K : Exit → Fr → List Heap → Prop} {f : Fr} {L : List Heap} {rest : List (Nat × Oper)} {κ : Nat}
variable {Γ : List (Nat × TI)} {d : Nat} {op : Op} {ty : TypeId} {pos : String} {aft : Array Edge} {g : Option (Nat × Bool)} {t u : TypeId} {x y : Operand} {a b : Int}
theorem J.aW {m q : Nat} (k : J P n w0 R l0 K rest (upd f d (.int .u64 ((m &&& q : Nat) : Int))) L) (hg : wantB n f l0 ⟨some d, .binOp .and t x y u, ty, pos, aft, g⟩ = true := by exact rfl) (hx : Cx.ev n f x = .int .u64 (m : Int) := by exact rfl) (hy : Cx.ev n f y = .int .u64 (q : Int) := by exact rfl) (hm : m < 2 ^ 64 := by first | assumption | (exact pow64 (by omega)) | (simp only [okS] at *; omega)) (hq : q < 2 ^ 64 := by first | assumption | (exact pow64 (by omega)) | (simp only [okS] at *; omega)) : J P n w0 R l0 K ((κ, ⟨some d, .binOp .and t x y u, ty, pos, aft, g⟩) :: rest) f L := J.andW hg hx hy hm hq k
end
section
variable {P : Program} {n : Nat} {w0 : World} {R : Heap} {l0 : List Oper} {K : Exit → Fr → List Heap → Prop} {f : Fr} {L : List Heap} {rest : List (Nat × Oper)} {κ : Nat}
variable {Γ : List (Nat × TI)} {d : Nat} {op : Op} {ty : TypeId} {pos : String} {aft : Array Edge} {g : Option (Nat × Bool)} {t u : TypeId} {x y : Operand} {a b : Int}
theorem J.oW {m q : Nat} (k : J P n w0 R l0 K rest (upd f d (.int .u64 ((m ||| q : Nat) : Int))) L) (hg : wantB n f l0 ⟨some d, .binOp .or t x y u, ty, pos, aft, g⟩ = true := by exact rfl) (hx : Cx.ev n f x = .int .u64 (m : Int) := by exact rfl) (hy : Cx.ev n f y = .int .u64 (q : Int) := by exact rfl) (hm : m < 2 ^ 64 := by first | assumption | (exact pow64 (by omega)) | (simp only [okS] at *; omega)) (hq : q < 2 ^ 64 := by first | assumption | (exact pow64 (by omega)) | (simp only [okS] at *; omega)) : J P n w0 R l0 K ((κ, ⟨some d, .binOp .or t x y u, ty, pos, aft, g⟩) :: rest) f L := J.orW hg hx hy hm hq k
end
section
variable {P : Program} {n : Nat} {w0 : World} {R : Heap} {l0 : List Oper} {K : Exit → Fr → List Heap → Prop} {f : Fr} {L : List Heap} {rest : List (Nat × Oper)} {κ : Nat}
variable {Γ : List (Nat × TI)} {d : Nat} {op : Op} {ty : TypeId} {pos : String} {aft : Array Edge} {g : Option (Nat × Bool)} {t u : TypeId} {x y : Operand} {a b : Int}
theorem J.cv {src dst : TypeId} {k1 : IntKind} {ts : TI} {s2 b2 : Nat} {z2 : Option Value} (k2 : IntKind) (hΓ : Fits P Γ) (k : J P n w0 R l0 K rest (upd f d (.int k2 a)) L) (hg : wantB n f l0 ⟨some d, .convert src dst x, ty, pos, aft, g⟩ = true := by exact rfl) (hx : Cx.ev n f x = .int k1 a := by exact rfl) (hs : look Γ src = some ts := by exact rfl) (hd : look Γ dst = some ⟨.int k2, s2, z2, b2⟩ := by exact rfl) (hk : k2.wrap a = a := by first | exact wrap_i64 (by omega) | exact wrap_u64 (by omega) | exact wrap_u8 (by omega)) : J P n w0 R l0 K ((κ, ⟨some d, .convert src dst x, ty, pos, aft, g⟩) :: rest) f L := J.cvt k2 hΓ hg hx hs hd hk k
end
section
variable {P : Program} {n : Nat} {w0 : World} {R : Heap} {l0 : List Oper} {K : Exit → Fr → List Heap → Prop} {f : Fr} {L : List Heap} {rest : List (Nat × Oper)} {κ : Nat}
variable {Γ : List (Nat × TI)} {d : Nat} {op : Op} {ty : TypeId} {pos : String} {aft : Array Edge} {g : Option (Nat × Bool)}
theorem J.t0 {t : TypeId} {ti : TI} {x y : Operand} {b off : Nat} {cs cl cs' : List Value} {e : TypeId} (hΓ : Fits P Γ) (k : J P n w0 R l0 K rest f ([(b, .cells ⟨cs'⟩ e (0, 0))] :: L)) (hg : wantB n f l0 ⟨none, .store t x y, ty, pos, aft, g⟩ = true := by exact rfl) (hp : Cx.ev n f x = .pointer (some ⟨b, off, none⟩) := by exact rfl) (ht : look Γ t = some ti := by exact rfl) (hv : vcells (Cx.ev n f y) = some cl := by exact rfl) (hn : Nat.beq cl.length ti.size = true := by exact rfl) (h1 : ones cl = true := by exact rfl) (hcs : putE cs off cl = some cs' := by exact rfl) : J P n w0 R l0 K ((2, ⟨none, .store t x y, ty, pos, aft, g⟩) :: rest) f ([(b, .cells ⟨cs⟩ e (0, 0))] :: L) := J.store0 hΓ hg hp ht hv hn h1 hcs k
end
section
variable {P : Program} {n : Nat} {w0 : World} {R : Heap} {l0 : List Oper} {K : Exit → Fr → List Heap → Prop} {f : Fr} {L : List Heap} {rest : List (Nat × Oper)} {κ : Nat}
variable {Γ : List (Nat × TI)} {d : Nat} {op : Op} {ty : TypeId} {pos : String} {aft : Array Edge} {g : Option (Nat × Bool)}
theorem J.t1 {a1 : Heap} {t : TypeId} {ti : TI} {x y : Operand} {b off : Nat} {cs cl cs' : List Value} {e : TypeId} (hΓ : Fits P Γ) (k : J P n w0 R l0 K rest f (a1 :: [(b, .cells ⟨cs'⟩ e (0, 0))] :: L)) (hg : wantB n f l0 ⟨none, .store t x y, ty, pos, aft, g⟩ = true := by exact rfl) (hp : Cx.ev n f x = .pointer (some ⟨b, off, none⟩) := by exact rfl) (ht : look Γ t = some ti := by exact rfl) (hv : vcells (Cx.ev n f y) = some cl := by exact rfl) (hn : Nat.beq cl.length ti.size = true := by exact rfl) (h1 : ones cl = true := by exact rfl) (hcs : putE cs off cl = some cs' := by exact rfl) : J P n w0 R l0 K ((2, ⟨none, .store t x y, ty, pos, aft, g⟩) :: rest) f (a1 :: [(b, .cells ⟨cs⟩ e (0, 0))] :: L) := J.store1 hΓ hg hp ht hv hn h1 hcs k
end
section
variable {P : Program} {n : Nat} {w0 : World} {R : Heap} {l0 : List Oper} {K : Exit → Fr → List Heap → Prop} {f : Fr} {L : List Heap} {rest : List (Nat × Oper)} {κ : Nat}
variable {Γ : List (Nat × TI)} {d : Nat} {op : Op} {ty : TypeId} {pos : String} {aft : Array Edge} {g : Option (Nat × Bool)}
theorem J.t2 {a1 a2 : Heap} {t : TypeId} {ti : TI} {x y : Operand} {b off : Nat} {cs cl cs' : List Value} {e : TypeId} (hΓ : Fits P Γ) (k : J P n w0 R l0 K rest f (a1 :: a2 :: [(b, .cells ⟨cs'⟩ e (0, 0))] :: L)) (hg : wantB n f l0 ⟨none, .store t x y, ty, pos, aft, g⟩ = true := by exact rfl) (hp : Cx.ev n f x = .pointer (some ⟨b, off, none⟩) := by exact rfl) (ht : look Γ t = some ti := by exact rfl) (hv : vcells (Cx.ev n f y) = some cl := by exact rfl) (hn : Nat.beq cl.length ti.size = true := by exact rfl) (h1 : ones cl = true := by exact rfl) (hcs : putE cs off cl = some cs' := by exact rfl) : J P n w0 R l0 K ((2, ⟨none, .store t x y, ty, pos, aft, g⟩) :: rest) f (a1 :: a2 :: [(b, .cells ⟨cs⟩ e (0, 0))] :: L) := J.store2 hΓ hg hp ht hv hn h1 hcs k
end
section
variable {P : Program} {n : Nat} {w0 : World} {R : Heap} {l0 : List Oper} {K : Exit → Fr → List Heap → Prop} {f : Fr} {L : List Heap} {rest : List (Nat × Oper)} {κ : Nat}
variable {Γ : List (Nat × TI)} {d : Nat} {op : Op} {ty : TypeId} {pos : String} {aft : Array Edge} {g : Option (Nat × Bool)}
variable {α : Type} {enc : α → List Value} {a : Option Addr} {ts us : List α} {h : Heap} {size e cap : Nat}
theorem J.tT {t : TypeId} {x y : Operand} {ti : TI} {cl cl' : List Value} {i o : Nat} (u : α) (dflt : α) (hΓ : Fits P Γ) (k : ∀ h', OwT enc size e a cap (ts.set i u) h' → J P n w0 R l0 K rest f (h' :: L)) (hg : wantB n f l0 ⟨none, .store t x y, ty, pos, aft, g⟩ = true := by exact rfl) (hx : Cx.ev n f x = pel a size i o := by exact rfl) (ht : look Γ t = some ti := by exact rfl) (hv : vcells (Cx.ev n f y) = some cl := by exact rfl) (hn : Nat.beq cl.length ti.size = true := by exact rfl) (h1 : ones cl = true := by exact rfl) (ho : OwT enc size e a cap ts h := by assumption) (hi : i < ts.length := by first | omega | exact Nat.le_of_ble_eq_true rfl | (simp only [List.length_set, List.length_append, List.length_cons, List.length_nil]; omega)) (hcl : putE (enc (ts.getD i dflt)) o cl = some cl' := by exact rfl) (hu : enc u = cl' := by exact rfl) : J P n w0 R l0 K ((2, ⟨none, .store t x y, ty, pos, aft, g⟩) :: rest) f (h :: L) := J.stT u dflt hΓ hg hx ht hv hn h1 ho hi hcl hu k
end
section
variable {P : Program} {n : Nat} {w0 : World} {R : Heap} {l0 : List Oper} {K : Exit → Fr → List Heap → Prop} {f : Fr} {L : List Heap} {rest : List (Nat × Oper)} {κ : Nat}
variable {Γ : List (Nat × TI)} {d : Nat} {op : Op} {ty : TypeId} {pos : String} {aft : Array Edge} {g : Option (Nat × Bool)}
variable {α : Type} {enc : α → List Value} {a : Option Addr} {ts us : List α} {h : Heap} {size e cap : Nat}
theorem J.tT2 {a1 a2 : Heap} {t : TypeId} {x y : Operand} {ti : TI} {cl cl' : List Value} {i o : Nat} (u : α) (dflt : α) (hΓ : Fits P Γ) (k : ∀ h', OwT enc size e a cap (ts.set i u) h' → J P n w0 R l0 K rest f (a1 :: a2 :: h' :: L)) (hg : wantB n f l0 ⟨none, .store t x y, ty, pos, aft, g⟩ = true := by exact rfl) (hx : Cx.ev n f x = pel a size i o := by exact rfl) (ht : look Γ t = some ti := by exact rfl) (hv : vcells (Cx.ev n f y) = some cl := by exact rfl) (hn : Nat.beq cl.length ti.size = true := by exact rfl) (h1 : ones cl = true := by exact rfl) (ho : OwT enc size e a cap ts h := by assumption) (hi : i < ts.length := by first | omega | exact Nat.le_of_ble_eq_true rfl | (simp only [List.length_set, List.length_append, List.length_cons, List.length_nil]; omega)) (hcl : putE (enc (ts.getD i dflt)) o cl = some cl' := by exact rfl) (hu : enc u = cl' := by exact rfl) : J P n w0 R l0 K ((2, ⟨none, .store t x y, ty, pos, aft, g⟩) :: rest) f (a1 :: a2 :: h :: L) := J.stT2 u dflt hΓ hg hx ht hv hn h1 ho hi hcl hu k
end
section
variable {P : Program} {n : Nat} {w0 : World} {R : Heap} {l0 : List Oper} {K : Exit → Fr → List Heap → Prop} {f : Fr} {L : List Heap} {rest : List (Nat × Oper)} {κ : Nat}
variable {Γ : List (Nat × TI)} {d : Nat} {op : Op} {ty : TypeId} {pos : String} {aft : Array Edge} {g : Option (Nat × Bool)}
theorem J.bx {t : TypeId} {x : Operand} {cl : List Value} (k : ∀ b, J P n w0 R l0 K rest (upd f d (.pointer (some ⟨b, 0, none⟩))) ([(b, .cells ⟨cl⟩ t (0, 0))] :: L)) (hg : wantB n f l0 ⟨some d, .box t x, ty, pos, aft, g⟩ = true := by exact rfl) (hc : vcells (Cx.ev n f x) = some cl := by exact rfl) : J P n w0 R l0 K ((κ + 2, ⟨some d, .box t x, ty, pos, aft, g⟩) :: rest) f L := J.box hg hc k
end
section
variable {P : Program} {n : Nat} {w0 : World} {R : Heap} {l0 : List Oper} {K : Exit → Fr → List Heap → Prop} {f : Fr} {L : List Heap} {rest : List (Nat × Oper)} {κ : Nat}
variable {Γ : List (Nat × TI)} {d : Nat} {op : Op} {ty : TypeId} {pos : String} {aft : Array Edge} {g : Option (Nat × Bool)}
theorem J.al {t : TypeId} {ti : TI} {z : Value} {cl : List Value} (hΓ : Fits P Γ) (k : ∀ b, J P n w0 R l0 K rest (upd f d (.pointer (some ⟨b, 0, none⟩))) ([(b, .cells ⟨cl⟩ t (0, 0))] :: L)) (hg : wantB n f l0 ⟨some d, .alloc t, ty, pos, aft, g⟩ = true := by exact rfl) (ht : look Γ t = some ti := by exact rfl) (hz : ti.zero = some z := by exact rfl) (hc : vcells z = some cl := by exact rfl) : J P n w0 R l0 K ((κ + 2, ⟨some d, .alloc t, ty, pos, aft, g⟩) :: rest) f L := J.alloc hΓ hg ht hz hc k
end
section
variable {P : Program} {n : Nat} {w0 : World} {R : Heap} {l0 : List Oper} {K : Exit → Fr → List Heap → Prop} {f : Fr} {L : List Heap} {rest : List (Nat × Oper)} {κ : Nat}
variable {Γ : List (Nat × TI)} {d : Nat} {op : Op} {ty : TypeId} {pos : String} {aft : Array Edge} {g : Option (Nat × Bool)}
theorem J.bd {t : TypeId} {parts : List (Nat × Operand)} {ps : List (Nat × List Value)} {cl : List Value} (hΓ : Fits P Γ) (k : J P n w0 R l0 K rest (upd f d (.agg ⟨cl⟩)) L) (hg : wantB n f l0 ⟨some d, .build t ⟨parts⟩, ty, pos, aft, g⟩ = true := by exact rfl) (hp : partsEv (Cx.ev n f) parts = some ps := by exact rfl) (h : buildEv Γ t ps = some cl := by exact rfl) : J P n w0 R l0 K ((κ, ⟨some d, .build t ⟨parts⟩, ty, pos, aft, g⟩) :: rest) f L := J.build hΓ hg hp h k
end
section
variable {P : Program} {n : Nat} {w0 : World} {R : Heap} {l0 : List Oper} {K : Exit → Fr → List Heap → Prop} {f : Fr} {L : List Heap} {rest : List (Nat × Oper)} {κ : Nat}
variable {Γ : List (Nat × TI)} {d : Nat} {op : Op} {ty : TypeId} {pos : String} {aft : Array Edge} {g : Option (Nat × Bool)}
theorem J.bl {t e : TypeId} {len : Nat} {parts : List (Nat × Operand)} {ps : List (Nat × List Value)} {zc cl : List Value} {s1 s2 b1 b2 : Nat} {z1 : Option Value} {z : Value} {de : TypeDesc} (hΓ : Fits P Γ) (k : ∀ b, J P n w0 R l0 K rest (upd f d (.slice (some ⟨b, 0, none⟩) len len)) ([(b, .cells ⟨cl⟩ e (0, 0))] :: L)) (hg : wantB n f l0 ⟨some d, .buildSlice t len ⟨parts⟩, ty, pos, aft, g⟩ = true := by exact rfl) (ht : look Γ t = some ⟨.slice e, s1, z1, b1⟩ := by exact rfl) (he : look Γ e = some ⟨de, s2, some z, b2⟩ := by exact rfl) (hz : vcells z = some zc := by exact rfl) (hzl : Nat.beq zc.length s2 = true := by exact rfl) (hlen : Nat.ble (len * s2) 16777216 = true := by exact rfl) (hp : partsEv (Cx.ev n f) parts = some ps := by exact rfl) (h : fillEv (fun i => some (i * s2, s2)) (zrep len zc) ps = some cl := by exact rfl) : J P n w0 R l0 K ((κ + 2, ⟨some d, .buildSlice t len ⟨parts⟩, ty, pos, aft, g⟩) :: rest) f L := J.bslice hΓ hg ht he hz hzl hlen hp h k
end
section
variable {P : Program} {n : Nat} {w0 : World} {R : Heap} {l0 : List Oper} {K : Exit → Fr → List Heap → Prop} {f : Fr} {L : List Heap} {rest : List (Nat × Oper)} {κ : Nat}
variable {Γ : List (Nat × TI)} {d : Nat} {op : Op} {ty : TypeId} {pos : String} {aft : Array Edge} {g : Option (Nat × Bool)} {t u : TypeId} {x y : Operand} {a b : List UInt8}
theorem J.ls (hΓ : Fits P Γ) (k : J P n w0 R l0 K rest (upd f d (.int .i64 (a.length : Int))) L) (hg : wantB n f l0 ⟨some d, .call ⟨.builtin .len, ⟨[x]⟩, ⟨[t]⟩⟩, ty, pos, aft, g⟩ = true := by exact rfl) (hx : Cx.ev n f x = .string (S a) := by exact rfl) (h : pureEv Γ (Cx.ev n f) (.call ⟨.builtin .len, ⟨[x]⟩, ⟨[t]⟩⟩) = some (.int .i64 ((S a).size : Int)) := by exact rfl) : J P n w0 R l0 K ((κ, ⟨some d, .call ⟨.builtin .len, ⟨[x]⟩, ⟨[t]⟩⟩, ty, pos, aft, g⟩) :: rest) f L := J.lenS hΓ hg hx h k
end
section
variable {P : Program} {n : Nat} {w0 : World} {R : Heap} {l0 : List Oper} {K : Exit → Fr → List Heap → Prop} {f : Fr} {L : List Heap} {rest : List (Nat × Oper)} {κ : Nat}
variable {Γ : List (Nat × TI)} {d : Nat} {op : Op} {ty : TypeId} {pos : String} {aft : Array Edge} {g : Option (Nat × Bool)} {t u : TypeId} {x y : Operand} {a b : List UInt8}
theorem J.eS (k : J P n w0 R l0 K rest (upd f d (.bool (a == b))) L) (hg : wantB n f l0 ⟨some d, .binOp .eql t x y u, ty, pos, aft, g⟩ = true := by exact rfl) (hx : Cx.ev n f x = .string (S a) := by exact rfl) (hy : Cx.ev n f y = .string (S b) := by exact rfl) : J P n w0 R l0 K ((κ, ⟨some d, .binOp .eql t x y u, ty, pos, aft, g⟩) :: rest) f L := J.eqS hg hx hy k
end
section
variable {P : Program} {n : Nat} {w0 : World} {R : Heap} {l0 : List Oper} {K : Exit → Fr → List Heap → Prop} {f : Fr} {L : List Heap} {rest : List (Nat × Oper)} {κ : Nat}
variable {Γ : List (Nat × TI)} {d : Nat} {op : Op} {ty : TypeId} {pos : String} {aft : Array Edge} {g : Option (Nat × Bool)} {t u : TypeId} {x y : Operand} {a b : List UInt8}
theorem J.ix {ki : IntKind} {i : Int} {j : Nat} {s1 b1 : Nat} {z1 : Option Value} (hΓ : Fits P Γ) (k : J P n w0 R l0 K rest (upd f d (.int .u8 ((a.getD j 0).toNat : Int))) L) (hg : wantB n f l0 ⟨some d, .index t x y, ty, pos, aft, g⟩ = true := by exact rfl) (hx : Cx.ev n f x = .string (S a) := by exact rfl) (hy : Cx.ev n f y = .int ki i := by exact rfl) (ht : look Γ t = some ⟨.string, s1, z1, b1⟩ := by exact rfl) (h0 : 0 ≤ i := by omega) (h1 : i < (a.length : Int) := by first | omega | (simp only [List.length_append, List.length_cons, List.length_nil]; omega)) (hj : i.toNat = j := by first | (with_reducible exact Int.toNat_natCast _) | (with_reducible exact toNat0) | (with_reducible exact toNat1) | exact rfl) : J P n w0 R l0 K ((κ, ⟨some d, .index t x y, ty, pos, aft, g⟩) :: rest) f L := J.ixS hΓ hg hx hy ht h0 h1 hj k
end
section
variable {P : Program} {n : Nat} {w0 : World} {R : Heap} {l0 : List Oper} {K : Exit → Fr → List Heap → Prop} {f : Fr} {L : List Heap} {rest : List (Nat × Oper)} {κ : Nat}
variable {Γ : List (Nat × TI)} {d : Nat} {op : Op} {ty : TypeId} {pos : String} {aft : Array Edge} {g : Option (Nat × Bool)} {t u : TypeId} {x y : Operand} {a b : List UInt8}
theorem J.mf {fn : Fn} {ars cs : List Operand} (hΓ : Fits P Γ) (k : J P n w0 R l0 K rest (upd f d (.func fn ⟨ars.map (Cx.ev n f)⟩ ⟨cs.map (Cx.ev n f)⟩)) L) (hg : wantB n f l0 ⟨some d, .makeFunc fn ⟨ars⟩ ⟨cs⟩, ty, pos, aft, g⟩ = true := by exact rfl) : J P n w0 R l0 K ((κ, ⟨some d, .makeFunc fn ⟨ars⟩ ⟨cs⟩, ty, pos, aft, g⟩) :: rest) f L := J.mkf hΓ hg k
end
section
variable {P : Program} {n : Nat} {w0 : World} {R : Heap} {l0 : List Oper} {K : Exit → Fr → List Heap → Prop} {f : Fr} {L : List Heap} {rest : List (Nat × Oper)} {κ : Nat}
variable {d : Nat} {op : Op} {ty : TypeId} {pos : String} {aft : Array Edge} {g : Option (Nat × Bool)}
theorem J.o (c : Nat) {dst : Option Tmp} (k : J P n w0 R l0 K ((κ, ⟨dst, op, ty, pos, aft, g⟩) :: rest) f L) (hn : opClass op = c := by exact rfl) : J P n w0 R l0 K ((κ, ⟨dst, op, ty, pos, aft, g⟩) :: rest) f L := k
theorem J.fc (c : Nat) {dst : Option Tmp} (k : J P n w0 R l0 K ((κ, ⟨dst, op, ty, pos, aft, g⟩) :: rest) f L) (hn : callOf op = some c := by exact rfl) : J P n w0 R l0 K ((κ, ⟨dst, op, ty, pos, aft, g⟩) :: rest) f L := k
theorem J.wt {dst : Option Tmp} (k : J P n w0 R l0 K ((κ, ⟨dst, op, ty, pos, aft, g⟩) :: rest) f L) (hg : wantB n f l0 ⟨dst, op, ty, pos, aft, g⟩ = true := by exact rfl) : J P n w0 R l0 K ((κ, ⟨dst, op, ty, pos, aft, g⟩) :: rest) f L := k
end
end Go.Cx
namespace Go.Cx
open Go Go.RowKit Go.ChangeShapes Go.WideShapes
set_option linter.unusedVariables false
set_option linter.unusedSimpArgs false
def heapOf (w : World) : Heap := (List.range w.heap.size).filterMap fun b => (w.heap[b]?).map fun o => (b, o)
theorem mem_heapOf {w : World} {b : Nat} {o : Obj} (h : w.heap[b]? = some o) : (b, o) ∈ heapOf w := by
  have hb : b < w.heap.size := (Array.getElem?_eq_some_iff.1 h).1
  exact List.mem_filterMap.2 ⟨b, List.mem_range.2 hb, by rw [h]; rfl⟩
theorem heapOf_holds (w : World) : Holds (heapOf w) w := by
  intro x hx
  obtain ⟨b, _, hb⟩ := List.mem_filterMap.1 hx
  cases h : w.heap[b]? with
  | none => rw [h] at hb; cases hb
  | some o => rw [h] at hb; simp only [Option.map_some, Option.some.injEq] at hb; subst hb; exact h
def Reads {α : Type} (P : Program) (w : World) (t : TypeId) (enc : α → List Value) (good : α → Prop) : Prop :=
  ∀ (A : Type) (ec : TypeId × Value → A) (base : Nat) (spare : Nat → Bool) (held : Bool) (fuel : Nat) (cs : List Value) (x : DataW A × List MemPlace), DataW.trod ec P w base spare held fuel t cs = some x → ∃ u : α, cs = enc u ∧ good u
section
variable {P : Program} {w : World} {t e : TypeId}
theorem reads_int {k : IntKind} (ht : P.underlying t = some (.int k)) : Reads P w t (fun n : Int => [.int k n]) (fun n => (Lit.int k n).wf = true) := by
  intro A ec base spare held fuel cs x h
  obtain ⟨n, h1, _, h2⟩ := DataW.trod_int ht h
  exact ⟨n, h1, h2⟩
theorem Reads.map {α β : Type} {enc : α → List Value} {good : α → Prop} {enc' : β → List Value} {good' : β → Prop} (h : Reads P w t enc good) (g : α → β) (hg : ∀ u, good u → enc u = enc' (g u) ∧ good' (g u)) : Reads P w t enc' good' := by
  intro A ec base spare held fuel cs x hx
  obtain ⟨u, h1, h2⟩ := h A ec base spare held fuel cs x hx
  obtain ⟨h3, h4⟩ := hg u h2
  exact ⟨g u, h1.trans h3, h4⟩
structure Sl (α : Type) where
  a : Option Addr
  cap : Nat
  ts : List α
instance {α : Type} : Inhabited (Sl α) := ⟨⟨none, 0, []⟩⟩
def encSl {α : Type} (t : Sl α) : List Value := [.slice t.a t.ts.length t.cap]
structure GoodSl {α : Type} (w : World) (enc : α → List Value) (size : Nat) (good : α → Prop) (u : Sl α) : Prop where
  sl : SlT enc size u.a u.ts (heapOf w)
  all : ∀ x, x ∈ u.ts → good x
  cap : u.ts.length ≤ u.cap ∧ u.cap ≤ maxLen
theorem cell_block {w : World} {b off : Nat} {v : Value} (h : w.cell? ⟨b, off, none⟩ = some v) : ∃ (c : List Value) (e : TypeId) (fr : Nat × Nat), w.heap[b]? = some (.cells ⟨c⟩ e fr) ∧ c[off]? = some v := by
  unfold World.cell? at h
  simp only at h
  split at h
  · rename_i c e fr hb
    obtain ⟨c⟩ := c
    exact ⟨c, e, fr, hb, by simpa using h⟩
  · cases h
theorem cells_row {w : World} {base b off n : Nat} {cs : List Value} (h : w.cells? base ⟨b, off, none⟩ n = some cs) (hn : 0 < n) : ∃ (c : List Value) (e : TypeId) (fr : Nat × Nat), w.heap[b]? = some (.cells ⟨c⟩ e fr) ∧ off + n ≤ c.length ∧ (c.drop off).take n = cs := by
  obtain ⟨_, hl, hi⟩ := World.cells?_some h
  have hadd : ∀ i, (⟨b, off, none⟩ : Addr).add i = ⟨b, off + i, none⟩ := fun i => by
    unfold Addr.add
    split
    · rename_i h0; rw [h0]; rfl
    · rfl
  have h0 := hi 0 hn
  rw [hadd, List.getElem?_eq_getElem (by omega)] at h0
  obtain ⟨c, e, fr, hb, hc⟩ := cell_block h0
  have hall : ∀ i, i < n → c[off + i]? = cs[i]? := fun i hin => by
    have hx := hi i hin
    rw [hadd, List.getElem?_eq_getElem (by omega)] at hx
    obtain ⟨c', e', fr', hb', hc'⟩ := cell_block hx
    rw [hb] at hb'
    have : c = c' := by
      simp only [Option.some.injEq, Obj.cells.injEq, Array.mk.injEq] at hb'
      exact hb'.1
    subst this
    rw [hc', List.getElem?_eq_getElem (by omega)]
  have hlast := hall (n - 1) (by omega)
  rw [List.getElem?_eq_getElem (show n - 1 < cs.length by omega)] at hlast
  have hle := (List.getElem?_eq_some_iff.1 hlast).1
  refine ⟨c, e, fr, hb, by omega, ?_⟩
  apply List.ext_getElem?
  intro i
  by_cases hin : i < n
  · rw [List.getElem?_take_of_lt hin, List.getElem?_drop, hall i hin]
  · rw [List.getElem?_eq_none (by rw [List.length_take]; omega), List.getElem?_eq_none (by omega)]
theorem reads_slice {α : Type} {enc : α → List Value} {good : α → Prop} {size : Nat} (ht : P.underlying t = some (.slice e)) (hc : P.cellsOf e = size) (h0 : 0 < size) (hE : ∀ u, (enc u).length = size) (he : Reads P w e enc good) : Reads P w t (encSl (α := α)) (GoodSl w enc size good) := by
  intro A ec base spare held fuel cs x h
  rcases Go.Deep.open_slice ht h with ⟨rfl, _⟩ | ⟨a, len, cap, m, n, D, Pl, rfl, hb, hl, hm, hmm, hx, hi⟩
  · exact ⟨⟨none, 0, []⟩, rfl, ⟨⟨hE, fun i hi => by simp at hi⟩, fun x hx => by simp at hx, Nat.le_refl _, Nat.zero_le _⟩⟩
  have hlm : len ≤ m := by rw [hmm]; split <;> omega
  have hel : ∀ i, i < len → ∃ u : α, w.cells? base (a.add (i * size)) size = some (enc u) ∧ good u := fun i hil => by
    obtain ⟨cs', h1, h2⟩ := hi i (by omega)
    obtain ⟨u, rfl, hu⟩ := he A ec base spare held n cs' _ h2
    rw [hc] at h1
    exact ⟨u, h1, hu⟩
  obtain ⟨f, hf⟩ : ∃ f : Nat → Option α, ∀ i, i < len → ∃ u, f i = some u ∧ w.cells? base (a.add (i * size)) size = some (enc u) ∧ good u := by
    have : ∀ i, ∃ o : Option α, i < len → ∃ u, o = some u ∧ w.cells? base (a.add (i * size)) size = some (enc u) ∧ good u := fun i => by
      by_cases hil : i < len
      · obtain ⟨u, h1, h2⟩ := hel i hil
        exact ⟨some u, fun _ => ⟨u, rfl, h1, h2⟩⟩
      · exact ⟨none, fun h => absurd h hil⟩
    exact ⟨fun i => (this i).choose, fun i => (this i).choose_spec⟩
  have hall : ∀ m, m ≤ len → ∃ us : List α, us.length = m ∧ ∀ i (hi : i < us.length), f i = some us[i] := fun m => by
    induction m with
    | zero => exact fun _ => ⟨[], rfl, fun i hi => by simp at hi⟩
    | succ m ih =>
      intro hml
      obtain ⟨us, h1, h2⟩ := ih (by omega)
      obtain ⟨u, h3, _⟩ := hf m (by omega)
      refine ⟨us ++ [u], by simp [h1], fun i hi => ?_⟩
      by_cases hlt : i < us.length
      · rw [List.getElem_append_left hlt]; exact h2 i hlt
      · have : i = us.length := by simp at hi; omega
        subst this
        rw [List.getElem_append_right (Nat.le_refl _)]
        simp only [Nat.sub_self, List.getElem_cons_zero]
        rw [h1]; exact h3
  obtain ⟨us, hul, hus⟩ := hall len (Nat.le_refl _)
  have hus' : ∀ i (hi : i < us.length), w.cells? base (a.add (i * size)) size = some (enc us[i]) ∧ good us[i] := fun i hi => by
    obtain ⟨u, h1, h2, h3⟩ := hf i (by omega)
    rw [hus i hi] at h1
    obtain rfl := Option.some.inj h1
    exact ⟨h2, h3⟩
  refine ⟨⟨some a, cap, us⟩, by rw [encSl]; simp only [hul], ⟨⟨hE, fun i hi => ?_⟩, fun x hx => ?_, by simp only [hul]; exact hl, hm⟩⟩
  · obtain ⟨h1, _⟩ := hus' i hi
    obtain ⟨b, off, spot⟩ := a
    have hsp : spot = none := by
      obtain ⟨h2, _⟩ := hus' 0 (by simp only at hi ⊢; omega)
      obtain ⟨_, hl0, h3⟩ := World.cells?_some h2
      have h4 := h3 0 h0
      rw [List.getElem?_eq_getElem (by omega), Nat.zero_mul] at h4
      have h5 := World.cell?_spot h4
      simpa [Addr.add] using h5
    subst hsp
    have hadd : (⟨b, off, none⟩ : Addr).add (i * size) = ⟨b, off + i * size, none⟩ := by
      unfold Addr.add
      split
      · rename_i h0; rw [h0]; rfl
      · rfl
    rw [hadd] at h1
    obtain ⟨c, e', fr, h2, h3, h4⟩ := cells_row h1 h0
    exact ⟨b, off, c, e', fr, rfl, mem_heapOf h2, by rw [Nat.add_mul, Nat.one_mul]; omega, h4⟩
  · obtain ⟨i, hi, rfl⟩ := List.mem_iff_getElem.1 hx
    exact (hus' i hi).2
theorem reads_array2 {α : Type} {enc : α → List Value} {good : α → Prop} {size : Nat} (ht : P.underlying t = some (.array 2 e)) (hc : P.cellsOf e = size) (hc2 : P.cellsOf t = 2 * size) (he : Reads P w e enc good) : Reads P w t (fun p : α × α => enc p.1 ++ enc p.2) (fun p => good p.1 ∧ good p.2) := by
  intro A ec base spare held fuel cs x h
  obtain ⟨xs, m, _, _, hl, hn, hi⟩ := DataW.trod_array ht h
  have g0 := hi 0 (by omega)
  have g1 := hi 1 (by omega)
  rw [List.getElem?_eq_getElem (by omega)] at g0 g1
  obtain ⟨u0, e0, k0⟩ := he A ec base spare held m _ _ g0
  obtain ⟨u1, e1, k1⟩ := he A ec base spare held m _ _ g1
  refine ⟨(u0, u1), ?_, k0, k1⟩
  simp only
  rw [← e0, ← e1, hc, Nat.zero_mul, List.drop_zero, Nat.one_mul, List.take_of_length_le (l := cs.drop size) (by rw [List.length_drop]; omega), List.take_append_drop]
theorem arg_slice {α : Type} {enc : α → List Value} {good : α → Prop} {size : Nat} {r : Reach} {b0 : Nat} {v : Value} {A : Type} {ec : TypeId × Value → A} {base : Nat} {spare : Nat → Bool} {held : Bool} {d : DataW A} {ps : List MemPlace}
    (ht : P.underlying t = some (.slice e)) (hr : Reads P w t (encSl (α := α)) (GoodSl w enc size good)) (hv : Value.okWide P w r b0 t v) (h : DataW.Trod ec P w base spare held t v d ps) : ∃ u : Sl α, v = .slice u.a u.ts.length u.cap ∧ GoodSl w enc size good u := by
  obtain ⟨a, len, cap, rfl⟩ := okWide_slice ht hv
  obtain ⟨fuel, h⟩ := h
  obtain ⟨u, h1, h2⟩ := hr A ec base spare held fuel _ _ h
  refine ⟨u, ?_, h2⟩
  simpa [Value.cells, encSl] using h1
theorem arg_agg {α : Type} {enc : α → List Value} {good : α → Prop} {v : Value} {A : Type} {ec : TypeId × Value → A} {base : Nat} {spare : Nat → Bool} {held : Bool} {d : DataW A} {ps : List MemPlace}
    (hag : ∃ cs, v = .agg cs) (hr : Reads P w t enc good) (h : DataW.Trod ec P w base spare held t v d ps) : ∃ u : α, v = .agg ⟨enc u⟩ ∧ good u := by
  obtain ⟨cs, rfl⟩ := hag
  obtain ⟨fuel, h⟩ := h
  obtain ⟨u, h1, h2⟩ := hr A ec base spare held fuel _ _ h
  refine ⟨u, ?_, h2⟩
  have : cs.toList = enc u := h1
  rw [← this]
theorem okWide_arr {n : Nat} {r : Reach} {b0 : Nat} {v : Value} (ht : P.underlying t = some (.array n e)) (h : Value.okWide P w r b0 t v) : ∃ cs, v = .agg cs := by
  simp only [Value.okWide, ht] at h
  obtain ⟨cs, h1, _⟩ := h
  exact ⟨cs, h1⟩
end
theorem trodAll_below {A : Type} {ec : TypeId × Value → A} {P : Program} (hl : laidOutB P = true) {w w' : World} (hb : Below w.heap.size w w') : ∀ {ts : List TypeId} {vs : List Value} {ds : List (DataW A)} {ps : List MemPlace}, (ts.all fun t => P.readableRec t && decide (t < P.types.size)) = true →
    DataW.TrodAll ec P w 0 (fun _ => true) true ts vs ds ps → ∃ qs, DataW.TrodAll ec P w' 0 (fun b => decide (b < w.heap.size)) true ts vs ds qs
  | [], [], [], ps, _, _ => ⟨[], rfl⟩
  | t :: ts, v :: vs, d :: ds, ps, hr, h => by
    obtain ⟨p, q, h1, h2, _⟩ := h
    rw [List.all_cons, Bool.and_eq_true, Bool.and_eq_true] at hr
    obtain ⟨qs, h3⟩ := trodAll_below hl hb hr.2 h2
    have lt0 : ∀ x ∈ p, x.block < w.heap.size := by obtain ⟨m, hm⟩ := h1; exact DataW.trod_lt m _ _ _ hm
    exact ⟨p ++ qs, p, qs, Below.trod hl hr.1.1 (of_decide_eq_true hr.1.2) h1 hb lt0, h3, rfl⟩
  | [], _ :: _, _, _, _, h => h.elim
  | [], [], _ :: _, _, _, h => h.elim
  | _ :: _, [], _, _, _, h => h.elim
  | _ :: _, _ :: _, [], _, _, h => h.elim
theorem law_post {A : Type} {ec : TypeId × Value → A} {P : Program} {fn : Func} {s : ChangeSpec} {tb : TypeId} {W : World} {args : Array Value} {ds gs : List (DataW A)} {before : List MemPlace} {e : Ending} {W' : World} (hl : laidOutB P = true) (hb : P.underlying tb = some .bool) (hr : fn.resultTypes = #[tb])
    (hp : (fn.params.toList.all fun t => P.readableRec t && decide (t < P.types.size)) = true) (hs : s.vars = []) (hfn : ∀ ds : List (DataW A), ds.length = fn.params.toList.length → s.fn A ds = { results := [.lit (.bool true)], args := ds })
    (hW : DataW.Whole ec P fn.params.toList s.vars false W args.toList ds gs before) (he : e = .returned (.bool true)) (bel : Below W.heap.size W W') : ∃ v, e = .returned v ∧ s.post ec P fn false true false false W args v W' := by
  subst he
  have hW' := hW
  obtain ⟨p, q, hA, hV, rfl, hfz, hnd⟩ := hW
  rw [hs] at hV
  obtain ⟨rfl, rfl⟩ := trodVars_none hV
  obtain ⟨qs, hq⟩ := trodAll_below hl bel hp hA
  have hlen : ds.length = fn.params.toList.length := by
    have : ∀ (ts : List TypeId) (vs : List Value) (ds : List (DataW A)) (ps : List MemPlace), DataW.TrodAll ec P W 0 (fun _ => true) true ts vs ds ps → ds.length = ts.length := by
      intro ts
      induction ts with
      | nil => intro vs ds ps h; cases vs <;> cases ds <;> first | rfl | exact h.elim
      | cons t ts ih =>
        intro vs ds ps h
        cases vs with
        | nil => exact h.elim
        | cons v vs =>
          cases ds with
          | nil => exact h.elim
          | cons d ds =>
            obtain ⟨p, q, _, h2, _⟩ := h
            simp [ih vs ds q h2]
    exact this _ _ _ _ hA
  have e1 := hfn ds hlen
  refine ⟨_, rfl, ds, [], p ++ [], [], qs, [], hW', ?_, ?_, ?_, bel.frame _, fun h => by cases h⟩
  · rw [List.append_nil, e1, hr]; exact trodAll_mk1 (shut_bool hb _)
  · rw [List.append_nil, e1]; exact hq
  · rw [List.append_nil, e1, hs]; rfl
end Go.Cx
namespace Go.Proofs.Ytbhgahjeocnfcaa
open Go Go.Cx
set_option maxRecDepth 100000
def Γ : List (Nat × TI) := [
  (1, ⟨.func #[] #[] false, 1, (some .nilFunc), 8⟩),
  (2, ⟨.int .i64, 1, (some (.int .i64 0)), 8⟩),
  (3, ⟨.int .i64, 1, (some (.int .i64 0)), 8⟩),
  (4, ⟨.bool, 1, (some (.bool false)), 1⟩),
  (5, ⟨.int .u8, 1, (some (.int .u8 0)), 1⟩),
  (6, ⟨.int .u8, 1, (some (.int .u8 0)), 1⟩),
  (7, ⟨.struct #[⟨ "x", 2, 0, false, "", "runtime", 0⟩, ⟨ "y", 3, 1, false, "", "runtime", 8⟩, ⟨ "signed", 4, 2, false, "", "runtime", 16⟩, ⟨ "code", 6, 3, false, "", "runtime", 17⟩], 4, (some (.agg #[(.int .i64 0), (.int .i64 0), (.bool false), (.int .u8 0)])), 24⟩),
  (8, ⟨.struct #[⟨ "x", 2, 0, false, "", "runtime", 0⟩, ⟨ "y", 3, 1, false, "", "runtime", 8⟩, ⟨ "signed", 4, 2, false, "", "runtime", 16⟩, ⟨ "code", 6, 3, false, "", "runtime", 17⟩], 4, (some (.agg #[(.int .i64 0), (.int .i64 0), (.bool false), (.int .u8 0)])), 24⟩),
  (9, ⟨.string, 1, (some (.string ByteArray.empty)), 16⟩),
  (10, ⟨.string, 1, (some (.string ByteArray.empty)), 16⟩),
  (11, ⟨.string, 1, (some (.string ByteArray.empty)), 16⟩),
  (12, ⟨.int .u64, 1, (some (.int .u64 0)), 8⟩),
  (13, ⟨.struct #[⟨ "msg", 9, 0, false, "", "runtime", 0⟩, ⟨ "addr", 12, 1, false, "", "runtime", 16⟩], 2, (some (.agg #[(.string ByteArray.empty), (.int .u64 0)])), 24⟩),
  (14, ⟨.struct #[⟨ "msg", 9, 0, false, "", "runtime", 0⟩, ⟨ "addr", 12, 1, false, "", "runtime", 16⟩], 2, (some (.agg #[(.string ByteArray.empty), (.int .u64 0)])), 24⟩),
  (15, ⟨.pointer 222, 1, (some (.pointer none)), 8⟩),
  (16, ⟨.pointer 225, 1, (some (.pointer none)), 8⟩),
  (17, ⟨.pointer 232, 1, (some (.pointer none)), 8⟩),
  (18, ⟨.struct #[⟨ "typ", 17, 0, false, "", "internal/runtime/maps", 0⟩], 1, (some (.agg #[(.pointer none)])), 8⟩),
  (19, ⟨.struct #[⟨ "typ", 17, 0, false, "", "internal/runtime/maps", 0⟩], 1, (some (.agg #[(.pointer none)])), 8⟩),
  (21, ⟨.int .i32, 1, (some (.int .i32 0)), 4⟩),
  (22, ⟨.slice 28, 1, (some (.slice none 0 0)), 24⟩),
  (23, ⟨.struct #[⟨ "N", 3, 0, false, "", "", 0⟩, ⟨ "L", 22, 1, false, "", "", 8⟩], 2, (some (.agg #[(.int .i64 0), (.slice none 0 0)])), 32⟩),
  (24, ⟨.struct #[⟨ "N", 3, 0, false, "", "", 0⟩, ⟨ "L", 22, 1, false, "", "", 8⟩], 2, (some (.agg #[(.int .i64 0), (.slice none 0 0)])), 32⟩),
  (25, ⟨.slice 5, 1, (some (.slice none 0 0)), 24⟩),
  (26, ⟨.func #[24, 3] #[4] false, 1, (some .nilFunc), 8⟩),
  (27, ⟨.func #[] #[4] false, 1, (some .nilFunc), 8⟩),
  (28, ⟨.slice 3, 1, (some (.slice none 0 0)), 24⟩),
  (29, ⟨.func #[3, 25] #[28] false, 1, (some .nilFunc), 8⟩),
  (30, ⟨.pointer 104, 1, (some (.pointer none)), 8⟩),
  (31, ⟨.int .i64, 1, (some (.int .i64 0)), 8⟩),
  (33, ⟨.func #[24, 28] #[30, 3, 31] false, 1, (some .nilFunc), 8⟩),
  (34, ⟨.func #[30, 3, 3] #[30, 3, 31] false, 1, (some .nilFunc), 8⟩),
  (35, ⟨.func #[28, 28] #[4] false, 1, (some .nilFunc), 8⟩),
  (36, ⟨.func #[] #[28] false, 1, (some .nilFunc), 8⟩),
  (38, ⟨.func #[3] #[3, 31] false, 1, (some .nilFunc), 8⟩),
  (39, ⟨.func #[24, 25, 5] #[4] false, 1, (some .nilFunc), 8⟩),
  (40, ⟨.map 3 3, 1, (some (.map none)), 8⟩),
  (41, ⟨.func #[30, 3] #[40] false, 1, (some .nilFunc), 8⟩),
  (42, ⟨.func #[24, 25, 25] #[4] false, 1, (some .nilFunc), 8⟩),
  (43, ⟨.slice 4, 1, (some (.slice none 0 0)), 24⟩),
  (44, ⟨.struct #[⟨ "N", 3, 0, false, "", "", 0⟩, ⟨ "On", 43, 1, false, "", "", 8⟩], 2, (some (.agg #[(.int .i64 0), (.slice none 0 0)])), 32⟩),
  (45, ⟨.struct #[⟨ "N", 3, 0, false, "", "", 0⟩, ⟨ "On", 43, 1, false, "", "", 8⟩], 2, (some (.agg #[(.int .i64 0), (.slice none 0 0)])), 32⟩),
  (46, ⟨.func #[24] #[45] false, 1, (some .nilFunc), 8⟩),
  (47, ⟨.func #[30, 3, 45, 28] #[4] false, 1, (some .nilFunc), 8⟩),
  (49, ⟨.func #[28, 3] #[28, 4] false, 1, (some .nilFunc), 8⟩),
  (50, ⟨.func #[24, 25, 3] #[4] false, 1, (some .nilFunc), 8⟩),
  (51, ⟨.int .u64, 1, (some (.int .u64 0)), 8⟩),
  (52, ⟨.array 2 51, 2, (some (.agg #[(.int .u64 0), (.int .u64 0)])), 16⟩),
  (53, ⟨.array 2 51, 2, (some (.agg #[(.int .u64 0), (.int .u64 0)])), 16⟩),
  (55, ⟨.func #[28] #[30, 31] false, 1, (some .nilFunc), 8⟩),
  (56, ⟨.func #[3, 3] #[3, 31] false, 1, (some .nilFunc), 8⟩),
  (57, ⟨.struct #[⟨ "b", 9, 0, false, "", "census/nat", 0⟩], 1, (some (.agg #[(.string ByteArray.empty)])), 16⟩),
  (58, ⟨.struct #[⟨ "b", 9, 0, false, "", "census/nat", 0⟩], 1, (some (.agg #[(.string ByteArray.empty)])), 16⟩),
  (60, ⟨.func #[3] #[58, 31] false, 1, (some .nilFunc), 8⟩),
  (61, ⟨.func #[3] #[58] false, 1, (some .nilFunc), 8⟩),
  (62, ⟨.func #[58, 58] #[3] false, 1, (some .nilFunc), 8⟩),
  (63, ⟨.func #[] #[9] false, 1, (some .nilFunc), 8⟩),
  (64, ⟨.func #[3, 53] #[4] false, 1, (some .nilFunc), 8⟩),
  (65, ⟨.func #[5, 53] #[4] false, 1, (some .nilFunc), 8⟩),
  (66, ⟨.func #[24, 28] #[31] false, 1, (some .nilFunc), 8⟩),
  (67, ⟨.slice 53, 1, (some (.slice none 0 0)), 24⟩),
  (68, ⟨.func #[24] #[67] false, 1, (some .nilFunc), 8⟩),
  (69, ⟨.func #[43] #[9] false, 1, (some .nilFunc), 8⟩),
  (70, ⟨.func #[28, 67] #[43] false, 1, (some .nilFunc), 8⟩),
  (71, ⟨.func #[67, 28] #[3] false, 1, (some .nilFunc), 8⟩),
  (72, ⟨.func #[3] #[67] false, 1, (some .nilFunc), 8⟩),
  (73, ⟨.func #[24, 53] #[4] false, 1, (some .nilFunc), 8⟩),
  (74, ⟨.func #[24, 28] #[4] false, 1, (some .nilFunc), 8⟩),
  (75, ⟨.slice 142, 1, (some (.slice none 0 0)), 24⟩),
  (76, ⟨.func #[28] #[4] false, 1, (some .nilFunc), 8⟩),
  (78, ⟨.func #[30, 28, 75, 4] #[3, 4] false, 1, (some .nilFunc), 8⟩),
  (79, ⟨.slice 144, 1, (some (.slice none 0 0)), 24⟩),
  (80, ⟨.struct #[⟨ "N", 3, 0, false, "", "", 0⟩, ⟨ "L", 79, 1, false, "", "", 8⟩], 2, (some (.agg #[(.int .i64 0), (.slice none 0 0)])), 32⟩),
  (81, ⟨.struct #[⟨ "N", 3, 0, false, "", "", 0⟩, ⟨ "L", 79, 1, false, "", "", 8⟩], 2, (some (.agg #[(.int .i64 0), (.slice none 0 0)])), 32⟩),
  (83, ⟨.func #[3] #[81, 31] false, 1, (some .nilFunc), 8⟩),
  (84, ⟨.func #[81] #[31] false, 1, (some .nilFunc), 8⟩),
  (85, ⟨.func #[81] #[4] false, 1, (some .nilFunc), 8⟩),
  (86, ⟨.func #[81, 53] #[4] false, 1, (some .nilFunc), 8⟩),
  (87, ⟨.func #[28, 75, 53] #[4] false, 1, (some .nilFunc), 8⟩),
  (88, ⟨.func #[3] #[24] false, 1, (some .nilFunc), 8⟩),
  (89, ⟨.func #[3] #[28] false, 1, (some .nilFunc), 8⟩),
  (90, ⟨.func #[30, 3] #[30, 3, 31] false, 1, (some .nilFunc), 8⟩),
  (91, ⟨.int .u64, 1, (some (.int .u64 0)), 8⟩),
  (92, ⟨.func #[5, 25] #[4] false, 1, (some .nilFunc), 8⟩),
  (93, ⟨.array 2 3, 2, (some (.agg #[(.int .i64 0), (.int .i64 0)])), 16⟩),
  (94, ⟨.func #[24, 25, 93] #[4] false, 1, (some .nilFunc), 8⟩),
  (95, ⟨.func #[24] #[31] false, 1, (some .nilFunc), 8⟩),
  (96, ⟨.func #[28] #[53] true, 1, (some .nilFunc), 8⟩),
  (97, ⟨.func #[3] #[53] false, 1, (some .nilFunc), 8⟩),
  (98, ⟨.func #[109, 28] #[3, 31] true, 1, (some .nilFunc), 8⟩),
  (99, ⟨.func #[107] #[3] false, 1, (some .nilFunc), 8⟩),
  (100, ⟨.slice 107, 1, (some (.slice none 0 0)), 24⟩),
  (101, ⟨.map 107 3, 1, (some (.map none)), 8⟩),
  (102, ⟨.map 159 3, 1, (some (.map none)), 8⟩),
  (103, ⟨.struct #[⟨ "order", 28, 0, false, "", "census/obdd", 0⟩, ⟨ "places", 40, 1, false, "", "census/obdd", 24⟩, ⟨ "nodes", 100, 2, false, "", "census/obdd", 32⟩, ⟨ "unique", 101, 3, false, "", "census/obdd", 56⟩, ⟨ "ifs", 102, 4, false, "", "census/obdd", 64⟩], 5, (some (.agg #[(.slice none 0 0), (.map none), (.slice none 0 0), (.map none), (.map none)])), 72⟩),
  (104, ⟨.struct #[⟨ "order", 28, 0, false, "", "census/obdd", 0⟩, ⟨ "places", 40, 1, false, "", "census/obdd", 24⟩, ⟨ "nodes", 100, 2, false, "", "census/obdd", 32⟩, ⟨ "unique", 101, 3, false, "", "census/obdd", 56⟩, ⟨ "ifs", 102, 4, false, "", "census/obdd", 64⟩], 5, (some (.agg #[(.slice none 0 0), (.map none), (.slice none 0 0), (.map none), (.map none)])), 72⟩),
  (105, ⟨.func #[3] #[3] false, 1, (some .nilFunc), 8⟩),
  (106, ⟨.struct #[⟨ "place", 3, 0, false, "", "census/obdd", 0⟩, ⟨ "low", 3, 1, false, "", "census/obdd", 8⟩, ⟨ "high", 3, 2, false, "", "census/obdd", 16⟩], 3, (some (.agg #[(.int .i64 0), (.int .i64 0), (.int .i64 0)])), 24⟩),
  (107, ⟨.struct #[⟨ "place", 3, 0, false, "", "census/obdd", 0⟩, ⟨ "low", 3, 1, false, "", "census/obdd", 8⟩, ⟨ "high", 3, 2, false, "", "census/obdd", 16⟩], 3, (some (.agg #[(.int .i64 0), (.int .i64 0), (.int .i64 0)])), 24⟩),
  (108, ⟨.func #[3, 3, 3] #[3] false, 1, (some .nilFunc), 8⟩),
  (109, ⟨.func #[] #[3] false, 1, (some .nilFunc), 8⟩),
  (110, ⟨.func #[30, 3] #[31] false, 1, (some .nilFunc), 8⟩),
  (111, ⟨.func #[30, 3, 28] #[30, 3, 31] false, 1, (some .nilFunc), 8⟩),
  (112, ⟨.func #[28] #[28] false, 1, (some .nilFunc), 8⟩),
  (113, ⟨.func #[28] #[31] true, 1, (some .nilFunc), 8⟩),
  (114, ⟨.map 3 4, 1, (some (.map none)), 8⟩),
  (116, ⟨.func #[3] #[3, 3, 3, 31] false, 1, (some .nilFunc), 8⟩),
  (117, ⟨.func #[45, 28] #[3] false, 1, (some .nilFunc), 8⟩),
  (118, ⟨.func #[53] #[3] false, 1, (some .nilFunc), 8⟩),
  (119, ⟨.func #[28, 3] #[4] false, 1, (some .nilFunc), 8⟩),
  (120, ⟨.func #[58, 58] #[58] false, 1, (some .nilFunc), 8⟩),
  (121, ⟨.func #[3, 122] #[58] false, 1, (some .nilFunc), 8⟩),
  (122, ⟨.map 3 58, 1, (some (.map none)), 8⟩),
  (123, ⟨.slice 124, 1, (some (.slice none 0 0)), 24⟩),
  (124, ⟨.int .u32, 1, (some (.int .u32 0)), 4⟩),
  (125, ⟨.func #[123] #[58] false, 1, (some .nilFunc), 8⟩),
  (126, ⟨.func #[] #[123] false, 1, (some .nilFunc), 8⟩),
  (127, ⟨.func #[123, 124] #[124] false, 1, (some .nilFunc), 8⟩),
  (128, ⟨.pointer 130, 1, (some (.pointer none)), 8⟩),
  (129, ⟨.struct #[⟨ "addr", 128, 0, false, "", "strings", 0⟩, ⟨ "buf", 25, 1, false, "", "strings", 8⟩], 2, (some (.agg #[(.pointer none), (.slice none 0 0)])), 32⟩),
  (130, ⟨.struct #[⟨ "addr", 128, 0, false, "", "strings", 0⟩, ⟨ "buf", 25, 1, false, "", "strings", 8⟩], 2, (some (.agg #[(.pointer none), (.slice none 0 0)])), 32⟩),
  (133, ⟨.func #[5] #[132] false, 1, (some .nilFunc), 8⟩),
  (134, ⟨.func #[3, 3, 4] #[3] false, 1, (some .nilFunc), 8⟩),
  (135, ⟨.func #[53, 3] #[4] false, 1, (some .nilFunc), 8⟩),
  (136, ⟨.func #[3, 3] #[53] false, 1, (some .nilFunc), 8⟩),
  (137, ⟨.func #[51] #[9] false, 1, (some .nilFunc), 8⟩),
  (138, ⟨.func #[3, 4] #[43] false, 1, (some .nilFunc), 8⟩),
  (139, ⟨.func #[28, 53] #[3] false, 1, (some .nilFunc), 8⟩),
  (140, ⟨.func #[28, 43] #[3] false, 1, (some .nilFunc), 8⟩),
  (141, ⟨.func #[53, 3] #[53] false, 1, (some .nilFunc), 8⟩),
  (142, ⟨.int .u16, 1, (some (.int .u16 0)), 2⟩),
  (143, ⟨.struct #[⟨ "Kind", 3, 0, false, "", "", 0⟩, ⟨ "Lit", 3, 1, false, "", "", 8⟩, ⟨ "In", 28, 2, false, "", "", 16⟩], 3, (some (.agg #[(.int .i64 0), (.int .i64 0), (.slice none 0 0)])), 40⟩),
  (144, ⟨.struct #[⟨ "Kind", 3, 0, false, "", "", 0⟩, ⟨ "Lit", 3, 1, false, "", "", 8⟩, ⟨ "In", 28, 2, false, "", "", 16⟩], 3, (some (.agg #[(.int .i64 0), (.int .i64 0), (.slice none 0 0)])), 40⟩),
  (145, ⟨.func #[144] #[3] false, 1, (some .nilFunc), 8⟩),
  (146, ⟨.func #[3, 3] #[3] false, 1, (some .nilFunc), 8⟩),
  (147, ⟨.func #[144, 3, 3] #[4] false, 1, (some .nilFunc), 8⟩),
  (148, ⟨.func #[81] #[67] false, 1, (some .nilFunc), 8⟩),
  (149, ⟨.func #[53, 53] #[53] false, 1, (some .nilFunc), 8⟩),
  (150, ⟨.func #[81, 3] #[28] false, 1, (some .nilFunc), 8⟩),
  (151, ⟨.func #[28, 152] #[4] false, 1, (some .nilFunc), 8⟩),
  (152, ⟨.func #[3] #[4] false, 1, (some .nilFunc), 8⟩),
  (153, ⟨.func #[28, 146] #[] false, 1, (some .nilFunc), 8⟩),
  (154, ⟨.func #[3, 3] #[4] false, 1, (some .nilFunc), 8⟩),
  (155, ⟨.struct #[], 0, (some (.agg #[])), 0⟩),
  (156, ⟨.struct #[], 0, (some (.agg #[])), 0⟩),
  (158, ⟨.func #[159] #[3] false, 1, (some .nilFunc), 8⟩),
  (159, ⟨.array 3 3, 3, (some (.agg #[(.int .i64 0), (.int .i64 0), (.int .i64 0)])), 24⟩),
  (160, ⟨.func #[3, 3, 3] #[3, 31] false, 1, (some .nilFunc), 8⟩),
  (161, ⟨.func #[3] #[] false, 1, (some .nilFunc), 8⟩),
  (162, ⟨.func #[28] #[] false, 1, (some .nilFunc), 8⟩),
  (163, ⟨.slice 43, 1, (some (.slice none 0 0)), 24⟩),
  (164, ⟨.func #[45, 28] #[163] false, 1, (some .nilFunc), 8⟩),
  (165, ⟨.func #[51] #[3] false, 1, (some .nilFunc), 8⟩),
  (166, ⟨.array 5 3, 5, (some (.agg #[(.int .i64 0), (.int .i64 0), (.int .i64 0), (.int .i64 0), (.int .i64 0)])), 40⟩),
  (167, ⟨.func #[51] #[58] false, 1, (some .nilFunc), 8⟩),
  (169, ⟨.pointer 5, 1, (some (.pointer none)), 8⟩),
  (171, ⟨.func #[3] #[3, 51, 4] false, 1, (some .nilFunc), 8⟩),
  (172, ⟨.func #[28] #[53] false, 1, (some .nilFunc), 8⟩),
  (173, ⟨.func #[28] #[9] false, 1, (some .nilFunc), 8⟩),
  (174, ⟨.func #[28, 3] #[3] false, 1, (some .nilFunc), 8⟩),
  (175, ⟨.func #[28, 43] #[28] false, 1, (some .nilFunc), 8⟩),
  (176, ⟨.func #[53] #[28] false, 1, (some .nilFunc), 8⟩),
  (177, ⟨.array 257 4, 257, (some (.agg #[(.bool false), (.bool false), (.bool false), (.bool false), (.bool false), (.bool false), (.bool false), (.bool false), (.bool false), (.bool false), (.bool false), (.bool false), (.bool false), (.bool false), (.bool false), (.bool false), (.bool false), (.bool false), (.bool false), (.bool false), (.bool false), (.bool false), (.bool false), (.bool false), (.bool false), (.bool false), (.bool false), (.bool false), (.bool false), (.bool false), (.bool false), (.bool false), (.bool false), (.bool false), (.bool false), (.bool false), (.bool false), (.bool false), (.bool false), (.bool false), (.bool false), (.bool false), (.bool false), (.bool false), (.bool false), (.bool false), (.bool false), (.bool false), (.bool false), (.bool false), (.bool false), (.bool false), (.bool false), (.bool false), (.bool false), (.bool false), (.bool false), (.bool false), (.bool false), (.bool false), (.bool false), (.bool false), (.bool false), (.bool false), (.bool false), (.bool false), (.bool false), (.bool false), (.bool false), (.bool false), (.bool false), (.bool false), (.bool false), (.bool false), (.bool false), (.bool false), (.bool false), (.bool false), (.bool false), (.bool false), (.bool false), (.bool false), (.bool false), (.bool false), (.bool false), (.bool false), (.bool false), (.bool false), (.bool false), (.bool false), (.bool false), (.bool false), (.bool false), (.bool false), (.bool false), (.bool false), (.bool false), (.bool false), (.bool false), (.bool false), (.bool false), (.bool false), (.bool false), (.bool false), (.bool false), (.bool false), (.bool false), (.bool false), (.bool false), (.bool false), (.bool false), (.bool false), (.bool false), (.bool false), (.bool false), (.bool false), (.bool false), (.bool false), (.bool false), (.bool false), (.bool false), (.bool false), (.bool false), (.bool false), (.bool false), (.bool false), (.bool false), (.bool false), (.bool false), (.bool false), (.bool false), (.bool false), (.bool false), (.bool false), (.bool false), (.bool false), (.bool false), (.bool false), (.bool false), (.bool false), (.bool false), (.bool false), (.bool false), (.bool false), (.bool false), (.bool false), (.bool false), (.bool false), (.bool false), (.bool false), (.bool false), (.bool false), (.bool false), (.bool false), (.bool false), (.bool false), (.bool false), (.bool false), (.bool false), (.bool false), (.bool false), (.bool false), (.bool false), (.bool false), (.bool false), (.bool false), (.bool false), (.bool false), (.bool false), (.bool false), (.bool false), (.bool false), (.bool false), (.bool false), (.bool false), (.bool false), (.bool false), (.bool false), (.bool false), (.bool false), (.bool false), (.bool false), (.bool false), (.bool false), (.bool false), (.bool false), (.bool false), (.bool false), (.bool false), (.bool false), (.bool false), (.bool false), (.bool false), (.bool false), (.bool false), (.bool false), (.bool false), (.bool false), (.bool false), (.bool false), (.bool false), (.bool false), (.bool false), (.bool false), (.bool false), (.bool false), (.bool false), (.bool false), (.bool false), (.bool false), (.bool false), (.bool false), (.bool false), (.bool false), (.bool false), (.bool false), (.bool false), (.bool false), (.bool false), (.bool false), (.bool false), (.bool false), (.bool false), (.bool false), (.bool false), (.bool false), (.bool false), (.bool false), (.bool false), (.bool false), (.bool false), (.bool false), (.bool false), (.bool false), (.bool false), (.bool false), (.bool false), (.bool false), (.bool false), (.bool false), (.bool false), (.bool false), (.bool false), (.bool false), (.bool false), (.bool false), (.bool false), (.bool false), (.bool false), (.bool false), (.bool false), (.bool false), (.bool false), (.bool false), (.bool false), (.bool false), (.bool false)])), 257⟩),
  (178, ⟨.func #[28, 152] #[3] false, 1, (some .nilFunc), 8⟩),
  (179, ⟨.func #[28, 3, 3, 3, 146] #[] false, 1, (some .nilFunc), 8⟩),
  (180, ⟨.func #[91] #[3] false, 1, (some .nilFunc), 8⟩),
  (181, ⟨.func #[76] #[] false, 1, (some .nilFunc), 8⟩),
  (182, ⟨.func #[76] #[] false, 1, (some .nilFunc), 8⟩),
  (183, ⟨.func #[28, 3] #[182] false, 1, (some .nilFunc), 8⟩),
  (184, ⟨.func #[28, 3, 3, 3] #[] false, 1, (some .nilFunc), 8⟩),
  (185, ⟨.func #[28, 3] #[67] false, 1, (some .nilFunc), 8⟩),
  (186, ⟨.func #[28, 3, 53] #[43] false, 1, (some .nilFunc), 8⟩),
  (187, ⟨.func #[43] #[4] false, 1, (some .nilFunc), 8⟩),
  (188, ⟨.func #[43, 43] #[4] false, 1, (some .nilFunc), 8⟩),
  (190, ⟨.func #[189] #[189] false, 1, (some .nilFunc), 8⟩),
  (191, ⟨.func #[] #[43] false, 1, (some .nilFunc), 8⟩),
  (192, ⟨.func #[43] #[53] false, 1, (some .nilFunc), 8⟩),
  (193, ⟨.func #[28, 3, 3, 146] #[] false, 1, (some .nilFunc), 8⟩),
  (194, ⟨.int .i64, 1, (some (.int .i64 0)), 8⟩),
  (196, ⟨.func #[28, 3, 3, 146] #[3, 194] false, 1, (some .nilFunc), 8⟩),
  (197, ⟨.func #[28, 3, 3, 146] #[4] false, 1, (some .nilFunc), 8⟩),
  (198, ⟨.func #[28, 3, 3, 3, 146] #[3] false, 1, (some .nilFunc), 8⟩),
  (199, ⟨.func #[28, 3, 3, 3, 146] #[3, 4] false, 1, (some .nilFunc), 8⟩),
  (200, ⟨.func #[124] #[3] false, 1, (some .nilFunc), 8⟩),
  (201, ⟨.func #[28, 152] #[28] false, 1, (some .nilFunc), 8⟩),
  (202, ⟨.func #[28, 3, 28] #[28] true, 1, (some .nilFunc), 8⟩),
  (203, ⟨.func #[28, 3, 3] #[] false, 1, (some .nilFunc), 8⟩),
  (204, ⟨.func #[28, 3, 3] #[3, 194] false, 1, (some .nilFunc), 8⟩),
  (205, ⟨.func #[28, 3, 3] #[4] false, 1, (some .nilFunc), 8⟩),
  (206, ⟨.func #[28, 3, 3, 3] #[3] false, 1, (some .nilFunc), 8⟩),
  (207, ⟨.func #[28, 3, 3, 3] #[3, 4] false, 1, (some .nilFunc), 8⟩),
  (208, ⟨.int .u64, 1, (some (.int .u64 0)), 8⟩),
  (209, ⟨.func #[3] #[91] false, 1, (some .nilFunc), 8⟩),
  (210, ⟨.func #[] #[51] false, 1, (some .nilFunc), 8⟩),
  (211, ⟨.func #[28, 3, 212, 146] #[3] false, 1, (some .nilFunc), 8⟩),
  (212, ⟨.pointer 3, 1, (some (.pointer none)), 8⟩),
  (213, ⟨.func #[28, 3, 3, 3, 212, 146] #[3] false, 1, (some .nilFunc), 8⟩),
  (214, ⟨.func #[28, 3] #[] false, 1, (some .nilFunc), 8⟩),
  (215, ⟨.func #[28, 3, 212] #[3] false, 1, (some .nilFunc), 8⟩),
  (216, ⟨.func #[28, 3, 3, 3, 212] #[3] false, 1, (some .nilFunc), 8⟩),
  (217, ⟨.pointer 208, 1, (some (.pointer none)), 8⟩),
  (219, ⟨.func #[28, 3, 3, 212, 146] #[3, 3] false, 1, (some .nilFunc), 8⟩),
  (220, ⟨.func #[28, 3, 3, 212] #[3, 3] false, 1, (some .nilFunc), 8⟩),
  (221, ⟨.struct #[⟨ "_interface", 17, 0, false, "", "runtime", 0⟩, ⟨ "concrete", 17, 1, false, "", "runtime", 8⟩, ⟨ "asserted", 17, 2, false, "", "runtime", 16⟩, ⟨ "missingMethod", 9, 3, false, "", "runtime", 24⟩], 4, (some (.agg #[(.pointer none), (.pointer none), (.pointer none), (.string ByteArray.empty)])), 40⟩),
  (222, ⟨.struct #[⟨ "_interface", 17, 0, false, "", "runtime", 0⟩, ⟨ "concrete", 17, 1, false, "", "runtime", 8⟩, ⟨ "asserted", 17, 2, false, "", "runtime", 16⟩, ⟨ "missingMethod", 9, 3, false, "", "runtime", 24⟩], 4, (some (.agg #[(.pointer none), (.pointer none), (.pointer none), (.string ByteArray.empty)])), 40⟩),
  (223, ⟨.array 0 16, 0, (some (.agg #[])), 0⟩),
  (224, ⟨.struct #[⟨ "_", 223, 0, false, "", "runtime", 0⟩], 0, (some (.agg #[])), 0⟩),
  (225, ⟨.struct #[⟨ "_", 223, 0, false, "", "runtime", 0⟩], 0, (some (.agg #[])), 0⟩),
  (226, ⟨.int .u8, 1, (some (.int .u8 0)), 1⟩),
  (227, ⟨.int .u8, 1, (some (.int .u8 0)), 1⟩),
  (228, ⟨.func #[189, 189] #[4] false, 1, (some .nilFunc), 8⟩),
  (229, ⟨.int .i32, 1, (some (.int .i32 0)), 4⟩),
  (230, ⟨.int .i32, 1, (some (.int .i32 0)), 4⟩),
  (231, ⟨.struct #[⟨ "Size_", 12, 0, false, "", "", 0⟩, ⟨ "PtrBytes", 12, 1, false, "", "", 8⟩, ⟨ "Hash", 124, 2, false, "", "", 16⟩, ⟨ "TFlag", 226, 3, false, "", "", 20⟩, ⟨ "Align_", 5, 4, false, "", "", 21⟩, ⟨ "FieldAlign_", 5, 5, false, "", "", 22⟩, ⟨ "Kind_", 227, 6, false, "", "", 23⟩, ⟨ "Equal", 228, 7, false, "", "", 24⟩, ⟨ "GCData", 169, 8, false, "", "", 32⟩, ⟨ "Str", 229, 9, false, "", "", 40⟩, ⟨ "PtrToThis", 230, 10, false, "", "", 44⟩], 11, (some (.agg #[(.int .u64 0), (.int .u64 0), (.int .u32 0), (.int .u8 0), (.int .u8 0), (.int .u8 0), (.int .u8 0), .nilFunc, (.pointer none), (.int .i32 0), (.int .i32 0)])), 48⟩),
  (232, ⟨.struct #[⟨ "Size_", 12, 0, false, "", "", 0⟩, ⟨ "PtrBytes", 12, 1, false, "", "", 8⟩, ⟨ "Hash", 124, 2, false, "", "", 16⟩, ⟨ "TFlag", 226, 3, false, "", "", 20⟩, ⟨ "Align_", 5, 4, false, "", "", 21⟩, ⟨ "FieldAlign_", 5, 5, false, "", "", 22⟩, ⟨ "Kind_", 227, 6, false, "", "", 23⟩, ⟨ "Equal", 228, 7, false, "", "", 24⟩, ⟨ "GCData", 169, 8, false, "", "", 32⟩, ⟨ "Str", 229, 9, false, "", "", 40⟩, ⟨ "PtrToThis", 230, 10, false, "", "", 44⟩], 11, (some (.agg #[(.int .u64 0), (.int .u64 0), (.int .u32 0), (.int .u8 0), (.int .u8 0), (.int .u8 0), (.int .u8 0), .nilFunc, (.pointer none), (.int .i32 0), (.int .i32 0)])), 48⟩)
]
theorem hΓ : Fits Try.prog Γ :=
  .cons (
  .cons (
  .cons (
  .cons (
  .cons (
  .cons (
  .cons (
  .cons (
  .cons (
  .cons (
  .cons (
  .cons (
  .cons (
  .cons (
  .cons (
  .cons (
  .cons (
  .cons (
  .cons (
  .cons (
  .cons (
  .cons (
  .cons (
  .cons (
  .cons (
  .cons (
  .cons (
  .cons (
  .cons (
  .cons (
  .cons (
  .cons (
  .cons (
  .cons (
  .cons (
  .cons (
  .cons (
  .cons (
  .cons (
  .cons (
  .cons (
  .cons (
  .cons (
  .cons (
  .cons (
  .cons (
  .cons (
  .cons (
  .cons (
  .cons (
  .cons (
  .cons (
  .cons (
  .cons (
  .cons (
  .cons (
  .cons (
  .cons (
  .cons (
  .cons (
  .cons (
  .cons (
  .cons (
  .cons (
  .cons (
  .cons (
  .cons (
  .cons (
  .cons (
  .cons (
  .cons (
  .cons (
  .cons (
  .cons (
  .cons (
  .cons (
  .cons (
  .cons (
  .cons (
  .cons (
  .cons (
  .cons (
  .cons (
  .cons (
  .cons (
  .cons (
  .cons (
  .cons (
  .cons (
  .cons (
  .cons (
  .cons (
  .cons (
  .cons (
  .cons (
  .cons (
  .cons (
  .cons (
  .cons (
  .cons (
  .cons (
  .cons (
  .cons (
  .cons (
  .cons (
  .cons (
  .cons (
  .cons (
  .cons (
  .cons (
  .cons (
  .cons (
  .cons (
  .cons (
  .cons (
  .cons (
  .cons (
  .cons (
  .cons (
  .cons (
  .cons (
  .cons (
  .cons (
  .cons (
  .cons (
  .cons (
  .cons (
  .cons (
  .cons (
  .cons (
  .cons (
  .cons (
  .cons (
  .cons (
  .cons (
  .cons (
  .cons (
  .cons (
  .cons (
  .cons (
  .cons (
  .cons (
  .cons (
  .cons (
  .cons (
  .cons (
  .cons (
  .cons (
  .cons (
  .cons (
  .cons (
  .cons (
  .cons (
  .cons (
  .cons (
  .cons (
  .cons (
  .cons (
  .cons (
  .cons (
  .cons (
  .cons (
  .cons (
  .cons (
  .cons (
  .cons (
  .cons (
  .cons (
  .cons (
  .cons (
  .cons (
  .cons (
  .cons (
  .cons (
  .cons (
  .cons (
  .cons (
  .cons (
  .cons (
  .cons (
  .cons (
  .cons (
  .cons (
  .cons (
  .cons (
  .cons (
  .cons (
  .cons (
  .cons (
  .cons (
  .cons (
  .cons (
  .cons (
  .cons (
  .cons (
  .cons (
  .cons (
  .cons (
  .cons (
  .cons (
  .cons (
  .cons (
  .cons (
  .cons (
  .cons (
  .cons (
  .cons (
  .cons (
  .cons (
  .cons (
  .cons (
  .cons (
  .cons (
  .cons (
  .cons (
  Fits.nil _
  ) (by kernel_rfl) (by kernel_rfl)
  ) (by kernel_rfl) (by kernel_rfl)
  ) (by kernel_rfl) (by kernel_rfl)
  ) (by kernel_rfl) (by kernel_rfl)
  ) (by kernel_rfl) (by kernel_rfl)
  ) (by kernel_rfl) (by kernel_rfl)
  ) (by kernel_rfl) (by kernel_rfl)
  ) (by kernel_rfl) (by kernel_rfl)
  ) (by kernel_rfl) (by kernel_rfl)
  ) (by kernel_rfl) (by kernel_rfl)
  ) (by kernel_rfl) (by kernel_rfl)
  ) (by kernel_rfl) (by kernel_rfl)
  ) (by kernel_rfl) (by kernel_rfl)
  ) (by kernel_rfl) (by kernel_rfl)
  ) (by kernel_rfl) (by kernel_rfl)
  ) (by kernel_rfl) (by kernel_rfl)
  ) (by kernel_rfl) (by kernel_rfl)
  ) (by kernel_rfl) (by kernel_rfl)
  ) (by kernel_rfl) (by kernel_rfl)
  ) (by kernel_rfl) (by kernel_rfl)
  ) (by kernel_rfl) (by kernel_rfl)
  ) (by kernel_rfl) (by kernel_rfl)
  ) (by kernel_rfl) (by kernel_rfl)
  ) (by kernel_rfl) (by kernel_rfl)
  ) (by kernel_rfl) (by kernel_rfl)
  ) (by kernel_rfl) (by kernel_rfl)
  ) (by kernel_rfl) (by kernel_rfl)
  ) (by kernel_rfl) (by kernel_rfl)
  ) (by kernel_rfl) (by kernel_rfl)
  ) (by kernel_rfl) (by kernel_rfl)
  ) (by kernel_rfl) (by kernel_rfl)
  ) (by kernel_rfl) (by kernel_rfl)
  ) (by kernel_rfl) (by kernel_rfl)
  ) (by kernel_rfl) (by kernel_rfl)
  ) (by kernel_rfl) (by kernel_rfl)
  ) (by kernel_rfl) (by kernel_rfl)
  ) (by kernel_rfl) (by kernel_rfl)
  ) (by kernel_rfl) (by kernel_rfl)
  ) (by kernel_rfl) (by kernel_rfl)
  ) (by kernel_rfl) (by kernel_rfl)
  ) (by kernel_rfl) (by kernel_rfl)
  ) (by kernel_rfl) (by kernel_rfl)
  ) (by kernel_rfl) (by kernel_rfl)
  ) (by kernel_rfl) (by kernel_rfl)
  ) (by kernel_rfl) (by kernel_rfl)
  ) (by kernel_rfl) (by kernel_rfl)
  ) (by kernel_rfl) (by kernel_rfl)
  ) (by kernel_rfl) (by kernel_rfl)
  ) (by kernel_rfl) (by kernel_rfl)
  ) (by kernel_rfl) (by kernel_rfl)
  ) (by kernel_rfl) (by kernel_rfl)
  ) (by kernel_rfl) (by kernel_rfl)
  ) (by kernel_rfl) (by kernel_rfl)
  ) (by kernel_rfl) (by kernel_rfl)
  ) (by kernel_rfl) (by kernel_rfl)
  ) (by kernel_rfl) (by kernel_rfl)
  ) (by kernel_rfl) (by kernel_rfl)
  ) (by kernel_rfl) (by kernel_rfl)
  ) (by kernel_rfl) (by kernel_rfl)
  ) (by kernel_rfl) (by kernel_rfl)
  ) (by kernel_rfl) (by kernel_rfl)
  ) (by kernel_rfl) (by kernel_rfl)
  ) (by kernel_rfl) (by kernel_rfl)
  ) (by kernel_rfl) (by kernel_rfl)
  ) (by kernel_rfl) (by kernel_rfl)
  ) (by kernel_rfl) (by kernel_rfl)
  ) (by kernel_rfl) (by kernel_rfl)
  ) (by kernel_rfl) (by kernel_rfl)
  ) (by kernel_rfl) (by kernel_rfl)
  ) (by kernel_rfl) (by kernel_rfl)
  ) (by kernel_rfl) (by kernel_rfl)
  ) (by kernel_rfl) (by kernel_rfl)
  ) (by kernel_rfl) (by kernel_rfl)
  ) (by kernel_rfl) (by kernel_rfl)
  ) (by kernel_rfl) (by kernel_rfl)
  ) (by kernel_rfl) (by kernel_rfl)
  ) (by kernel_rfl) (by kernel_rfl)
  ) (by kernel_rfl) (by kernel_rfl)
  ) (by kernel_rfl) (by kernel_rfl)
  ) (by kernel_rfl) (by kernel_rfl)
  ) (by kernel_rfl) (by kernel_rfl)
  ) (by kernel_rfl) (by kernel_rfl)
  ) (by kernel_rfl) (by kernel_rfl)
  ) (by kernel_rfl) (by kernel_rfl)
  ) (by kernel_rfl) (by kernel_rfl)
  ) (by kernel_rfl) (by kernel_rfl)
  ) (by kernel_rfl) (by kernel_rfl)
  ) (by kernel_rfl) (by kernel_rfl)
  ) (by kernel_rfl) (by kernel_rfl)
  ) (by kernel_rfl) (by kernel_rfl)
  ) (by kernel_rfl) (by kernel_rfl)
  ) (by kernel_rfl) (by kernel_rfl)
  ) (by kernel_rfl) (by kernel_rfl)
  ) (by kernel_rfl) (by kernel_rfl)
  ) (by kernel_rfl) (by kernel_rfl)
  ) (by kernel_rfl) (by kernel_rfl)
  ) (by kernel_rfl) (by kernel_rfl)
  ) (by kernel_rfl) (by kernel_rfl)
  ) (by kernel_rfl) (by kernel_rfl)
  ) (by kernel_rfl) (by kernel_rfl)
  ) (by kernel_rfl) (by kernel_rfl)
  ) (by kernel_rfl) (by kernel_rfl)
  ) (by kernel_rfl) (by kernel_rfl)
  ) (by kernel_rfl) (by kernel_rfl)
  ) (by kernel_rfl) (by kernel_rfl)
  ) (by kernel_rfl) (by kernel_rfl)
  ) (by kernel_rfl) (by kernel_rfl)
  ) (by kernel_rfl) (by kernel_rfl)
  ) (by kernel_rfl) (by kernel_rfl)
  ) (by kernel_rfl) (by kernel_rfl)
  ) (by kernel_rfl) (by kernel_rfl)
  ) (by kernel_rfl) (by kernel_rfl)
  ) (by kernel_rfl) (by kernel_rfl)
  ) (by kernel_rfl) (by kernel_rfl)
  ) (by kernel_rfl) (by kernel_rfl)
  ) (by kernel_rfl) (by kernel_rfl)
  ) (by kernel_rfl) (by kernel_rfl)
  ) (by kernel_rfl) (by kernel_rfl)
  ) (by kernel_rfl) (by kernel_rfl)
  ) (by kernel_rfl) (by kernel_rfl)
  ) (by kernel_rfl) (by kernel_rfl)
  ) (by kernel_rfl) (by kernel_rfl)
  ) (by kernel_rfl) (by kernel_rfl)
  ) (by kernel_rfl) (by kernel_rfl)
  ) (by kernel_rfl) (by kernel_rfl)
  ) (by kernel_rfl) (by kernel_rfl)
  ) (by kernel_rfl) (by kernel_rfl)
  ) (by kernel_rfl) (by kernel_rfl)
  ) (by kernel_rfl) (by kernel_rfl)
  ) (by kernel_rfl) (by kernel_rfl)
  ) (by kernel_rfl) (by kernel_rfl)
  ) (by kernel_rfl) (by kernel_rfl)
  ) (by kernel_rfl) (by kernel_rfl)
  ) (by kernel_rfl) (by kernel_rfl)
  ) (by kernel_rfl) (by kernel_rfl)
  ) (by kernel_rfl) (by kernel_rfl)
  ) (by kernel_rfl) (by kernel_rfl)
  ) (by kernel_rfl) (by kernel_rfl)
  ) (by kernel_rfl) (by kernel_rfl)
  ) (by kernel_rfl) (by kernel_rfl)
  ) (by kernel_rfl) (by kernel_rfl)
  ) (by kernel_rfl) (by kernel_rfl)
  ) (by kernel_rfl) (by kernel_rfl)
  ) (by kernel_rfl) (by kernel_rfl)
  ) (by kernel_rfl) (by kernel_rfl)
  ) (by kernel_rfl) (by kernel_rfl)
  ) (by kernel_rfl) (by kernel_rfl)
  ) (by kernel_rfl) (by kernel_rfl)
  ) (by kernel_rfl) (by kernel_rfl)
  ) (by kernel_rfl) (by kernel_rfl)
  ) (by kernel_rfl) (by kernel_rfl)
  ) (by kernel_rfl) (by kernel_rfl)
  ) (by kernel_rfl) (by kernel_rfl)
  ) (by kernel_rfl) (by kernel_rfl)
  ) (by kernel_rfl) (by kernel_rfl)
  ) (by kernel_rfl) (by kernel_rfl)
  ) (by kernel_rfl) (by kernel_rfl)
  ) (by kernel_rfl) (by kernel_rfl)
  ) (by kernel_rfl) (by kernel_rfl)
  ) (by kernel_rfl) (by kernel_rfl)
  ) (by kernel_rfl) (by kernel_rfl)
  ) (by kernel_rfl) (by kernel_rfl)
  ) (by kernel_rfl) (by kernel_rfl)
  ) (by kernel_rfl) (by kernel_rfl)
  ) (by kernel_rfl) (by kernel_rfl)
  ) (by kernel_rfl) (by kernel_rfl)
  ) (by kernel_rfl) (by kernel_rfl)
  ) (by kernel_rfl) (by kernel_rfl)
  ) (by kernel_rfl) (by kernel_rfl)
  ) (by kernel_rfl) (by kernel_rfl)
  ) (by kernel_rfl) (by kernel_rfl)
  ) (by kernel_rfl) (by kernel_rfl)
  ) (by kernel_rfl) (by kernel_rfl)
  ) (by kernel_rfl) (by kernel_rfl)
  ) (by kernel_rfl) (by kernel_rfl)
  ) (by kernel_rfl) (by kernel_rfl)
  ) (by kernel_rfl) (by kernel_rfl)
  ) (by kernel_rfl) (by kernel_rfl)
  ) (by kernel_rfl) (by kernel_rfl)
  ) (by kernel_rfl) (by kernel_rfl)
  ) (by kernel_rfl) (by kernel_rfl)
  ) (by kernel_rfl) (by kernel_rfl)
  ) (by kernel_rfl) (by kernel_rfl)
  ) (by kernel_rfl) (by kernel_rfl)
  ) (by kernel_rfl) (by kernel_rfl)
  ) (by kernel_rfl) (by kernel_rfl)
  ) (by kernel_rfl) (by kernel_rfl)
  ) (by kernel_rfl) (by kernel_rfl)
  ) (by kernel_rfl) (by kernel_rfl)
  ) (by kernel_rfl) (by kernel_rfl)
  ) (by kernel_rfl) (by kernel_rfl)
  ) (by kernel_rfl) (by kernel_rfl)
  ) (by kernel_rfl) (by kernel_rfl)
  ) (by kernel_rfl) (by kernel_rfl)
  ) (by kernel_rfl) (by kernel_rfl)
  ) (by kernel_rfl) (by kernel_rfl)
  ) (by kernel_rfl) (by kernel_rfl)
  ) (by kernel_rfl) (by kernel_rfl)
  ) (by kernel_rfl) (by kernel_rfl)
  ) (by kernel_rfl) (by kernel_rfl)
  ) (by kernel_rfl) (by kernel_rfl)
  ) (by kernel_rfl) (by kernel_rfl)
  ) (by kernel_rfl) (by kernel_rfl)
  ) (by kernel_rfl) (by kernel_rfl)
  ) (by kernel_rfl) (by kernel_rfl)
  ) (by kernel_rfl) (by kernel_rfl)
  ) (by kernel_rfl) (by kernel_rfl)
  ) (by kernel_rfl) (by kernel_rfl)
  ) (by kernel_rfl) (by kernel_rfl)
  ) (by kernel_rfl) (by kernel_rfl)
  ) (by kernel_rfl) (by kernel_rfl)
  ) (by kernel_rfl) (by kernel_rfl)
  ) (by kernel_rfl) (by kernel_rfl)
  ) (by kernel_rfl) (by kernel_rfl)
  ) (by kernel_rfl) (by kernel_rfl)
end Go.Proofs.Ytbhgahjeocnfcaa
namespace Go.Proofs.Ytbhgahjeocnfcaa
open Go Go.Cx
set_option linter.unusedVariables false
set_option linter.unusedSimpArgs false
def pc : Nat → Nat → Nat
  | 0, _ => 0
  | n + 1, x => x % 2 + pc n (x / 2)
theorem pc_add (m n x : Nat) : pc (m + n) x = pc m x + pc n (x / 2 ^ m) := by
  induction m generalizing x with
  | zero => simp [pc]
  | succ m ih =>
    rw [show m + 1 + n = (m + n) + 1 by omega, pc, pc, ih, Nat.div_div_eq_div_mul, ← Nat.pow_succ', Nat.add_assoc]
theorem pc_mod (n x : Nat) : pc n (x % 2 ^ n) = pc n x := by
  induction n generalizing x with
  | zero => rfl
  | succ n ih =>
    rw [pc, pc, ← ih (x / 2)]
    have h1 : x % 2 ^ (n + 1) % 2 = x % 2 := Nat.mod_mod_of_dvd _ ⟨2 ^ n, by rw [Nat.pow_succ, Nat.mul_comm]⟩
    have h2 : x % 2 ^ (n + 1) / 2 = x / 2 % 2 ^ n := by rw [Nat.pow_succ', Nat.mod_mul_right_div_self]
    rw [h1, h2]
theorem pc_bits (n x : Nat) : pc n x = (List.range n).countP x.testBit := by
  induction n generalizing x with
  | zero => rfl
  | succ n ih =>
    rw [pc, ih, List.range_succ_eq_map, List.countP_cons, List.countP_map]
    have : (x.testBit ∘ Nat.succ) = (x / 2).testBit := by funext i; simp [Nat.testBit_succ]
    rw [this, Nat.testBit_zero, Nat.add_comm]
    congr 1
    rcases Nat.mod_two_eq_zero_or_one x with h | h <;> simp [h]
theorem and_split (k a1 a0 m1 m0 : Nat) (ha : a0 < 2 ^ k) (hm : m0 < 2 ^ k) : (2 ^ k * a1 + a0) &&& (2 ^ k * m1 + m0) = 2 ^ k * (a1 &&& m1) + (a0 &&& m0) := by
  have hb : a0 &&& m0 < 2 ^ k := Nat.and_lt_two_pow _ hm
  apply Nat.eq_of_testBit_eq
  intro i
  rw [Nat.testBit_and, Nat.testBit_two_pow_mul_add _ ha, Nat.testBit_two_pow_mul_add _ hm, Nat.testBit_two_pow_mul_add _ hb]
  split
  · rw [Nat.testBit_and]
  · rw [Nat.testBit_and]
def rep (c : Nat) : Nat → Nat
  | 0 => 0
  | n + 1 => 256 * rep c n + c
def st (c s n x : Nat) : Nat := ((x / 2 ^ s) &&& rep c n) + (x &&& rep c n)
def st8 (c s x : Nat) : Nat := ((x / 2 ^ s) &&& c) + (x &&& c)
theorem st_split (c s : Nat) (hs : s ≤ 8) (hc : c < 256) (hlow : ∀ r, r < 2 ^ s → ∀ q, q < 2 ^ (8 - s) → ((2 ^ (8 - s) * r + q) &&& c) = (q &&& c)) (n a1 a0 : Nat) (h0 : a0 < 256) : st c s (n + 1) (256 * a1 + a0) = 256 * st c s n a1 + st8 c s a0 := by
  have h8 : 2 ^ (8 - s) * 2 ^ s = 256 := by rw [← Nat.pow_add, Nat.sub_add_cancel hs]
  have hp : 0 < 2 ^ s := Nat.two_pow_pos s
  have e : (256 * a1 + a0) / 2 ^ s = 2 ^ 8 * (a1 / 2 ^ s) + (2 ^ (8 - s) * (a1 % 2 ^ s) + a0 / 2 ^ s) := by
    have h1 := Nat.div_add_mod a1 (2 ^ s)
    have h2 : 256 * a1 + a0 = 2 ^ s * (2 ^ (8 - s) * a1) + a0 := by rw [← Nat.mul_assoc, Nat.mul_comm (2 ^ s), h8]
    rw [h2, Nat.mul_add_div hp]
    have h3 : 2 ^ (8 - s) * a1 = 2 ^ 8 * (a1 / 2 ^ s) + 2 ^ (8 - s) * (a1 % 2 ^ s) := by
      conv => lhs; rw [← h1]
      rw [Nat.mul_add, ← Nat.mul_assoc, h8]
    omega
  have hq : a0 / 2 ^ s < 2 ^ (8 - s) := by rw [Nat.div_lt_iff_lt_mul hp, h8]; exact h0
  have hr : a1 % 2 ^ s < 2 ^ s := Nat.mod_lt _ hp
  have hlo : 2 ^ (8 - s) * (a1 % 2 ^ s) + a0 / 2 ^ s < 2 ^ 8 := by
    have : 2 ^ (8 - s) * (a1 % 2 ^ s + 1) ≤ 2 ^ (8 - s) * 2 ^ s := Nat.mul_le_mul_left _ hr
    rw [h8, Nat.mul_add] at this
    omega
  unfold st st8
  rw [e, rep]
  have g1 := and_split 8 (a1 / 2 ^ s) (2 ^ (8 - s) * (a1 % 2 ^ s) + a0 / 2 ^ s) (rep c n) c hlo hc
  have g2 := and_split 8 a1 a0 (rep c n) c h0 hc
  rw [show (256 : Nat) = 2 ^ 8 from rfl, g1, g2, hlow _ hr _ hq]
  omega
theorem st1_low : ∀ r, r < 2 ^ 1 → ∀ q, q < 2 ^ (8 - 1) → ((2 ^ (8 - 1) * r + q) &&& 85) = (q &&& 85) := by decide +kernel
theorem st2_low : ∀ r, r < 2 ^ 2 → ∀ q, q < 2 ^ (8 - 2) → ((2 ^ (8 - 2) * r + q) &&& 51) = (q &&& 51) := by decide +kernel
def ofB : List Nat → Nat
  | [] => 0
  | c :: l => 256 * ofB l + c
theorem st1_bytes : ∀ (l : List Nat), (∀ c ∈ l, c < 256) → st 85 1 l.length (ofB l) = ofB (l.map (st8 85 1))
  | [], _ => by simp [st, ofB, rep]
  | c :: l, h => by
    rw [List.length_cons, ofB, st_split 85 1 (by omega) (by omega) st1_low _ _ _ (h c (by simp)), st1_bytes l fun x hx => h x (by simp [hx])]; rfl
theorem st2_bytes : ∀ (l : List Nat), (∀ c ∈ l, c < 256) → st 51 2 l.length (ofB l) = ofB (l.map (st8 51 2))
  | [], _ => by simp [st, ofB, rep]
  | c :: l, h => by
    rw [List.length_cons, ofB, st_split 51 2 (by omega) (by omega) st2_low _ _ _ (h c (by simp)), st2_bytes l fun x hx => h x (by simp [hx])]; rfl
def t3 (n x : Nat) : Nat := (x / 16 + x) &&& rep 15 n
def t8 (x : Nat) : Nat := (x / 16 + x) &&& 15
theorem t3_low : ∀ r, r < 16 → ∀ q, q < 256 → ((16 * r + q) % 256 &&& 15) = (q &&& 15) := by decide +kernel
theorem t3_bytes : ∀ (l : List Nat), (∀ c ∈ l, c ≤ 68 ∧ c % 16 ≤ 4) → t3 l.length (ofB l) = ofB (l.map t8)
  | [], _ => by simp [t3, ofB, rep]
  | c :: l, h => by
    obtain ⟨hc, hm⟩ := h c (by simp)
    have h4 : ofB l % 16 ≤ 4 := by
      cases l with
      | nil => simp [ofB]
      | cons d l => have := (h d (by simp)).2; simp only [ofB]; omega
    have e : ofB (c :: l) / 16 + ofB (c :: l) = 2 ^ 8 * (ofB l / 16 + ofB l) + (16 * (ofB l % 16) + (c / 16 + c)) := by
      simp only [ofB]; omega
    have hlo : 16 * (ofB l % 16) + (c / 16 + c) < 2 ^ 8 := by omega
    rw [List.length_cons]
    unfold t3
    rw [e, rep, show (256 : Nat) = 2 ^ 8 from rfl, and_split 8 _ _ _ _ hlo (by omega)]
    have g := t3_low (ofB l % 16) (by omega) (c / 16 + c) (by omega)
    rw [Nat.mod_eq_of_lt hlo] at g
    have ih := t3_bytes l fun x hx => h x (by simp [hx])
    unfold t3 at ih
    rw [ih, g]
    show _ = 256 * ofB (l.map t8) + t8 c
    rfl
theorem byte_ok : ∀ c, c < 256 → st8 85 1 c < 256 ∧ st8 51 2 (st8 85 1 c) ≤ 68 ∧ st8 51 2 (st8 85 1 c) % 16 ≤ 4 ∧ t8 (st8 51 2 (st8 85 1 c)) = pc 8 c := by decide +kernel
theorem pc8_le : ∀ c, c < 256 → pc 8 c ≤ 8 := by decide +kernel
def bytes8 (x : Nat) : List Nat := [x % 256, x / 256 % 256, x / 65536 % 256, x / 16777216 % 256, x / 4294967296 % 256, x / 1099511627776 % 256, x / 281474976710656 % 256, x / 72057594037927936 % 256]
theorem ofB_bytes8 (x : Nat) (h : x < 18446744073709551616) : ofB (bytes8 x) = x := by
  simp only [ofB, bytes8]; omega
theorem bytes8_lt (x : Nat) : ∀ c ∈ bytes8 x, c < 256 := by
  intro c hc
  simp only [bytes8, List.mem_cons, List.not_mem_nil, or_false] at hc
  rcases hc with rfl | rfl | rfl | rfl | rfl | rfl | rfl | rfl <;> exact Nat.mod_lt _ (by omega)
theorem pc64 (x : Nat) : pc 64 x = ((bytes8 x).map (pc 8)).sum := by
  have e : ∀ n y, pc (8 + n) y = pc 8 (y % 256) + pc n (y / 256) := fun n y => by
    rw [pc_add 8 n y]
    have := pc_mod 8 y
    rw [show (2 : Nat) ^ 8 = 256 from rfl] at this ⊢
    rw [this]
  rw [show (64 : Nat) = 8 + (8 + (8 + (8 + (8 + (8 + (8 + (8 + 0))))))) from rfl, e, e, e, e, e, e, e, e]
  simp only [bytes8, List.map_cons, List.map_nil, List.sum_cons, List.sum_nil, pc, Nat.div_div_eq_div_mul]
theorem ofB_le (m : Nat) : ∀ (l : List Nat), (∀ c ∈ l, c ≤ m) → ofB l ≤ m * rep 1 l.length
  | [], _ => by simp [ofB, rep]
  | c :: l, h => by
    have ih := ofB_le m l fun x hx => h x (by simp [hx])
    have hc := h c (by simp)
    rw [ofB, List.length_cons, rep, Nat.mul_add, Nat.mul_one, Nat.mul_left_comm]
    omega
theorem rep85 : rep 85 8 = 6148914691236517205 := by decide +kernel
theorem rep51 : rep 51 8 = 3689348814741910323 := by decide +kernel
theorem rep15 : rep 15 8 = 1085102592571150095 := by decide +kernel
theorem rep1 : rep 1 8 = 72340172838076673 := by decide +kernel
theorem bytes8_len (x : Nat) : (bytes8 x).length = 8 := rfl
theorem ones_law (x : Nat) (h : x < 18446744073709551616) : ∀ a b c d e f, a = ((x / 2) &&& 6148914691236517205) + (x &&& 6148914691236517205) → b = ((a / 4) &&& 3689348814741910323) + (a &&& 3689348814741910323) → c = (b / 16 + b) &&& 1085102592571150095 →
    d = c + c / 256 → e = d + d / 65536 → f = e + e / 4294967296 → a < 18446744073709551616 ∧ b < 18446744073709551616 ∧ b / 16 + b < 18446744073709551616 ∧ d < 18446744073709551616 ∧ e < 18446744073709551616 ∧ f < 9223372036854775808 ∧ f % 128 = pc 64 x := by
  intro a b c d e f ha hb hc hd he hf
  have h1 := st1_bytes (bytes8 x) (bytes8_lt x)
  rw [ofB_bytes8 x h, bytes8_len, st, rep85] at h1
  have a1 : a = ofB ((bytes8 x).map (st8 85 1)) := ha.trans h1
  have l1 : ∀ y ∈ (bytes8 x).map (st8 85 1), y < 256 := fun y hy => by obtain ⟨z, hz, rfl⟩ := List.mem_map.1 hy; exact (byte_ok z (bytes8_lt x z hz)).1
  have h2 := st2_bytes ((bytes8 x).map (st8 85 1)) l1
  rw [← a1, List.length_map, bytes8_len, st, rep51] at h2
  have b1 : b = ofB (((bytes8 x).map (st8 85 1)).map (st8 51 2)) := hb.trans h2
  have l2 : ∀ y ∈ ((bytes8 x).map (st8 85 1)).map (st8 51 2), y ≤ 68 ∧ y % 16 ≤ 4 := fun y hy => by
    obtain ⟨u, hu, rfl⟩ := List.mem_map.1 hy
    obtain ⟨z, hz, rfl⟩ := List.mem_map.1 hu
    exact ⟨(byte_ok z (bytes8_lt x z hz)).2.1, (byte_ok z (bytes8_lt x z hz)).2.2.1⟩
  have h3 := t3_bytes (((bytes8 x).map (st8 85 1)).map (st8 51 2)) l2
  rw [← b1, List.length_map, List.length_map, bytes8_len, t3, rep15] at h3
  have c1 : c = ofB ((((bytes8 x).map (st8 85 1)).map (st8 51 2)).map t8) := hc.trans h3
  have c2 : (((bytes8 x).map (st8 85 1)).map (st8 51 2)).map t8 = (bytes8 x).map (pc 8) := by
    rw [List.map_map, List.map_map]
    exact List.map_congr_left fun z hz => (byte_ok z (bytes8_lt x z hz)).2.2.2
  rw [c2] at c1
  have ga := ofB_le 255 _ (fun y hy => Nat.le_of_lt_succ (l1 y hy))
  have gb := ofB_le 68 _ (fun y hy => (l2 y hy).1)
  rw [← a1, List.length_map, bytes8_len, rep1] at ga
  rw [← b1, List.length_map, List.length_map, bytes8_len, rep1] at gb
  have p8 : ∀ y ∈ bytes8 x, pc 8 y ≤ 8 := fun y hy => pc8_le y (bytes8_lt x y hy)
  rw [pc64]
  clear a1 l1 h2 b1 l2 h3 c2 h1 ha hb hc
  simp only [bytes8, List.map_cons, List.map_nil, ofB, List.sum_cons, List.sum_nil] at c1 p8 ⊢
  have q0 := p8 (x % 256) (by simp)
  have q1 := p8 (x / 256 % 256) (by simp)
  have q2 := p8 (x / 65536 % 256) (by simp)
  have q3 := p8 (x / 16777216 % 256) (by simp)
  have q4 := p8 (x / 4294967296 % 256) (by simp)
  have q5 := p8 (x / 1099511627776 % 256) (by simp)
  have q6 := p8 (x / 281474976710656 % 256) (by simp)
  have q7 := p8 (x / 72057594037927936 % 256) (by simp)
  clear p8
  generalize pc 8 (x % 256) = c0 at *
  generalize pc 8 (x / 256 % 256) = c1' at *
  generalize pc 8 (x / 65536 % 256) = c2 at *
  generalize pc 8 (x / 16777216 % 256) = c3 at *
  generalize pc 8 (x / 4294967296 % 256) = c4 at *
  generalize pc 8 (x / 1099511627776 % 256) = c5 at *
  generalize pc 8 (x / 281474976710656 % 256) = c6 at *
  generalize pc 8 (x / 72057594037927936 % 256) = c7 at *
  -- the sums, field by field
  have d1 : d = ofB [c0 + c1', c1' + c2, c2 + c3, c3 + c4, c4 + c5, c5 + c6, c6 + c7, c7] := by
    have : c / 256 = ofB [c1', c2, c3, c4, c5, c6, c7] := by rw [c1]; simp only [ofB]; omega
    rw [hd, this, c1]; simp only [ofB]; omega
  have e1 : e = ofB [c0 + c1' + (c2 + c3), c1' + c2 + (c3 + c4), c2 + c3 + (c4 + c5), c3 + c4 + (c5 + c6), c4 + c5 + (c6 + c7), c5 + c6 + c7, c6 + c7, c7] := by
    have : d / 65536 = ofB [c2 + c3, c3 + c4, c4 + c5, c5 + c6, c6 + c7, c7] := by rw [d1]; simp only [ofB]; omega
    rw [he, this, d1]; simp only [ofB]; omega
  have f1 : f = e + ofB [c4 + c5 + (c6 + c7), c5 + c6 + c7, c6 + c7, c7] := by
    have : e / 4294967296 = ofB [c4 + c5 + (c6 + c7), c5 + c6 + c7, c6 + c7, c7] := by rw [e1]; simp only [ofB]; omega
    rw [hf, this]
  simp only [ofB] at d1 e1 f1
  refine ⟨by omega, by omega, by omega, by omega, by omega, by omega, by omega⟩
end Go.Proofs.Ytbhgahjeocnfcaa
namespace Go.Cx
open Go Go.RowKit
set_option linter.unusedVariables false
set_option linter.unusedSimpArgs false
section
variable {P : Program} {fn : Func} {n : Nat} {w0 : World} {R : Heap} {Post : Ending → World → Prop} {f : Fr} {L : List Heap} {Γ : List (Nat × TI)}
theorem retCS {t ty b u : Nat} {cs : List Value} {e : TypeId} {fr : Nat × Nat} {v x : Value} (hΓ : Fits P Γ) (hr : fn.results = #[.cell t ty, .tmp u]) (ht : Nat.blt t n = true) (hu : Nat.blt u n = true) (hv : f t = .pointer (some ⟨b, 0, none⟩)) (hb : Rd R L b (.cells ⟨cs⟩ e fr)) (hl : ldEv Γ ty cs 0 = some v) (hx : frc (f u) = some x)
    (h : ∀ w, H w0 R L w → Post (.returned (.tuple #[v, x])) w) : retK P fn n w0 R Post .ret f L := fun a w ha hw => by
  refine ⟨.tuple #[v, x], ?_, h w hw⟩
  have h1 := ldEv_ok (P := P) hΓ (hw.rd hb) hl
  unfold Instr.loadAt Instr.sureAddr at h1
  simp only [Sem.run_bind, Sem.run_pure, Result.andThen_ok] at h1
  have h2 := ha.getD ht
  rw [hv] at h2
  have h3 : a.tmps[t]?.getD undef = .pointer (some ⟨b, 0, none⟩) := by rw [← h2]; simp [Array.getD_eq_getD_getElem?]
  have h4 := ha.getD hu
  have h5 : a.tmps[u]?.getD undef = x := by rw [← frc_eq hx, ← h4]; simp [Array.getD_eq_getD_getElem?]
  simp only [results, hr]
  simp [h3, h5, asAddr, Sem.run_bind]
  rw [h1]
  rfl
end
end Go.Cx
namespace Go.Cx
open Go Go.RowKit
set_option linter.unusedVariables false
set_option linter.unusedSimpArgs false
theorem Ag.hv2 {ws ws2 : Nat → Bool} {f f2 g : Fr} (hs : ∀ i, ws2 i = true → ws i = true) (h : Ag ws f f2) : Ag ws f (havoc ws2 f2 g) := fun i hi => by
  have h2 : ws2 i = false := by
    cases hb : ws2 i with
    | false => rfl
    | true => rw [hs i hb] at hi; cases hi
  simp only [havoc, h2, cond_false]
  exact h i hi
end Go.Cx
namespace Go.Cx
open Go Go.RowKit
set_option linter.unusedVariables false
set_option linter.unusedSimpArgs false
section
variable {P : Program} {ops : Array Oper} {md : Region.Mode} {Q : Exit → Act → World → Prop}
def Along (ops : Array Oper) : List (Nat × Nat) → List (Nat × Oper) → Prop
  | [], [] => True
  | (c, k) :: ps, (d, o) :: l => ops[k]? = some o ∧ c = d ∧ Along ops ps l
  | _, _ => False
def lexP (md : Region.Mode) (ops : Array Oper) (loud gro : Nat → Bool) : List (Nat × Nat) → Array Bool → Bool
  | [], listed => (Region.ready md ops listed).isEmpty
  | (0, k) :: ks, listed => !loud k && (Region.ready md ops listed).contains k && Region.free md ops listed k && lexP md ops loud gro ks (listed.setIfInBounds k true)
  | (1, k) :: ks, listed => !loud k && (Region.ready md ops listed).contains k && Region.free md ops listed k && ((List.range ops.size).all fun j => !loud j || listed.getD j true || (gro j && (match ops[k]? with | some o => isLd o.op | none => false)) || waitsB md ops k ops.size j) && lexP md ops loud gro ks (listed.setIfInBounds k true)
  | (c + 2, k) :: ks, listed => loud k && (gro k == !(Nat.beq c 0)) && decide (Region.ready md ops listed = [k]) && lexP md ops loud gro ks (listed.setIfInBounds k true)
def loudP (ps : List (Nat × Nat)) (j : Nat) : Bool := ps.any fun p => Nat.beq p.2 j && Nat.ble 2 p.1
def groP (ps : List (Nat × Nat)) (j : Nat) : Bool := ps.any fun p => Nat.beq p.2 j && Nat.ble 3 p.1
def drawP (ps : List (Nat × Nat)) (ops : Array Oper) : Bool := Region.noSelect ops && Nat.beq ps.length ops.size && ps.all (fun p => Nat.blt p.2 ops.size) && lexP .any ops (loudP ps) (groP ps) ps (Array.replicate ops.size false)
def picks (l0 : List Oper) : List (Nat × Nat) → List (Nat × Oper)
  | [] => []
  | (c, k) :: ps => match l0[k]? with | some o => (c, o) :: picks l0 ps | none => picks l0 ps
theorem picks_along (l0 : List Oper) : ∀ (ps : List (Nat × Nat)), (ps.all (fun p => Nat.blt p.2 l0.length)) = true → Along l0.toArray ps (picks l0 ps) ∧ (picks l0 ps).length = ps.length
  | [], _ => ⟨trivial, rfl⟩
  | (c, k) :: ps, h => by
    rw [List.all_cons, Bool.and_eq_true] at h
    have hk : k < l0.length := Nat.le_of_ble_eq_true h.1
    have ih := picks_along l0 ps h.2
    have e : l0[k]? = some l0[k] := List.getElem?_eq_getElem hk
    simp only [picks, e, Along, List.length_cons]
    exact ⟨⟨by simp [hk], trivial, ih.1⟩, by rw [ih.2]⟩
theorem LX.gp {loud gro : Nat → Bool} (hs : Region.noSelect ops = true) (hQ : ∀ c a w, ¬ Q (.panic c) a w) : ∀ (ps : List (Nat × Nat)) (l : List (Nat × Oper)) (listed : Array Bool) (a : Act) (C : World → Prop), Along ops ps l → (∀ j, ops.size ≤ j → loud j = false) →
    Closed md ops listed → lexP md ops loud gro ps listed = true → LX P ops Q l a C → GX P md ops Q loud gro C l.length listed a
  | [], [], listed, a, C, _, _, inv, hB, h => ⟨by simpa [lexP] using hB, h⟩
  | [], _ :: _, _, _, _, hlen, _, _, _, _ => hlen.elim
  | _ :: _, [], _, _, _, hlen, _, _, _, _ => hlen.elim
  | (0, k) :: ks, (0, o) :: l, listed, a, C, ⟨h0, _, hl⟩, hlo, inv, hB, h => by
    simp only [lexP, Bool.and_eq_true, Bool.not_eq_true'] at hB
    obtain ⟨⟨⟨hlk, hr⟩, hf⟩, hB'⟩ := hB
    have hr' : k ∈ Region.ready md ops listed := by simpa using hr
    obtain ⟨v, hy, hk⟩ : ∃ v, Yields P ops o v a ∧ LX P ops Q l (a.put o.dst v) C := h
    have hyi : YieldsIn P ops C o v a := by
      rcases hy with ⟨h1, h2⟩ | h1
      · exact .inl ⟨h1, fun w _ => by unfold Oper.quietAt; rw [h2 w]; exact ⟨rfl, rfl⟩⟩
      · exact .inr h1
    exact GX.first h0 (Region.noSelect_spec hs) hQ hlk l.length C listed a inv (Region.free_spec h0 hf) hr' hyi (.inl hy)
      (LX.gp hs hQ ks l _ _ C hl hlo (inv.set hr') hB' hk)
  | (1, k) :: ks, (1, o) :: l, listed, a, C, ⟨h0, _, hl⟩, hlo, inv, hB, h => by
    simp only [lexP, Bool.and_eq_true, Bool.not_eq_true'] at hB
    obtain ⟨⟨⟨⟨hlk, hr⟩, hf⟩, hw⟩, hB'⟩ := hB
    have hr' : k ∈ Region.ready md ops listed := by simpa using hr
    obtain ⟨v, hy, hk⟩ : ∃ v, YieldsIn P ops C o v a ∧ LX P ops Q l (a.put o.dst v) C := h
    have hall : ∀ j, loud j = true → listed.getD j true = false → (gro j = true ∧ isLd o.op = true) ∨ waitsB md ops k ops.size j = true := fun j hj hun => by
      have hjs : j < ops.size := by
        rcases Nat.lt_or_ge j ops.size with h' | h'
        · exact h'
        · rw [hlo j h'] at hj; cases hj
      have := List.all_eq_true.1 hw j (List.mem_range.2 hjs)
      simp only [Bool.or_eq_true, Bool.not_eq_true', hj, hun, h0, Bool.and_eq_true] at this
      rcases this with ((h' | h') | h') | h'
      · cases h'
      · cases h'
      · exact .inl h'
      · exact .inr h'
    refine GX.first h0 (Region.noSelect_spec hs) hQ hlk l.length C listed a inv (Region.free_spec h0 hf) hr' hy ?_
      (LX.gp hs hQ ks l _ _ C hl hlo (inv.set hr') hB' hk)
    cases hld : isLd o.op with
    | true =>
      refine .inr (.inr ⟨yieldsIn_ld hld hy, fun j hj hun => ?_⟩)
      rcases hall j hj hun with h | h
      · exact .inl h.1
      · exact .inr ⟨ops.size, h⟩
    | false =>
      refine .inr (.inl fun j hj hun => ⟨ops.size, ?_⟩)
      rcases hall j hj hun with h | h
      · rw [hld] at h; cases h.2
      · exact h
  | (c' + 2, k) :: ks, (c + 2, o) :: l, listed, a, C, ⟨h0, hcc, hl⟩, hlo, inv, hB, h => by
    obtain rfl : c = c' := by have := hcc; omega
    simp only [lexP, Bool.and_eq_true, decide_eq_true_eq] at hB
    obtain ⟨⟨⟨hlk, hgk⟩, hr⟩, hB'⟩ := hB
    have hr' : k ∈ Region.ready md ops listed := by rw [hr]; simp
    have h' : ∀ w, C w → lop P ops Q o (fun a' w' => ∃ C' : World → Prop, (c ≠ 0 → ∀ w, C' w → C w) ∧ C' w' ∧ LX P ops Q l a' C') a w := h
    have hc : gro k = true → c ≠ 0 := fun hg hc => by
      rw [hg, hc] at hgk
      cases hgk
    refine ⟨fun he => (by rw [hr] at he; cases he), fun j hj => ?_⟩
    rw [hr] at hj
    have hjk : j = k := by simpa using hj
    subst hjk
    refine .inl ⟨hlk, fun w hC => ?_⟩
    have hlop := h' w hC
    have hwp : wpOp P ops Q j (fun a' w' => ∃ C' : World → Prop, (c ≠ 0 → ∀ w, C' w → C w) ∧ C' w' ∧ LX P ops Q l a' C') a w := by
      unfold wpOp
      simp only [h0]
      unfold lop at hlop
      split
      · rename_i hg; rw [if_pos hg] at hlop; exact .inl hlop
      · rename_i hg; rw [if_neg hg] at hlop; exact hlop
    refine wpOp_mono (fun a' w' ⟨C', hsub, hC', hk⟩ => ⟨C', fun hg => hsub (hc hg), hC', ?_⟩) hwp
    exact LX.gp hs hQ ks l _ _ C' hl hlo (inv.set hr') hB' hk
  | (0, _) :: _, (_ + 1, _) :: _, _, _, _, ⟨_, hc, _⟩, _, _, _, _ => by cases hc
  | (1, _) :: _, (0, _) :: _, _, _, _, ⟨_, hc, _⟩, _, _, _, _ => by cases hc
  | (1, _) :: _, (_ + 2, _) :: _, _, _, _, ⟨_, hc, _⟩, _, _, _, _ => by simp at hc
  | (_ + 2, _) :: _, (0, _) :: _, _, _, _, ⟨_, hc, _⟩, _, _, _, _ => by simp at hc
  | (_ + 2, _) :: _, (1, _) :: _, _, _, _, ⟨_, hc, _⟩, _, _, _, _ => by simp at hc
end
section
variable {P : Program} {n : Nat} {w0 : World} {R : Heap} {K : Exit → Fr → List Heap → Prop} {f : Fr} {L : List Heap} {l0 : List Oper} {rest : List (Nat × Oper)} {o : Oper}
def JX (P : Program) (n : Nat) (w0 : World) (R : Heap) (l0 : List Oper) (K : Exit → Fr → List Heap → Prop) (l : List (Nat × Oper)) (f : Fr) (Fam : List Heap → Prop) : Prop :=
  ∀ a, Rep n f a → LX P l0.toArray (QW n w0 R K) l a (fun w => ∃ L, Fam L ∧ H w0 R L w)
theorem JC.drawX {id : Nat} {l : List Oper} {Fam : List Heap → Prop} (ps : List (Nat × Nat)) (hm : P.follows .mixedOrders = true) (hB : drawP ps l.toArray = true) (hL : Fam L)
    (h : JX P n w0 R l (drawK K) (picks l ps) f Fam) : JC P n w0 R (.region id l.toArray true) K f L := fun a w ha hw => by
  simp only [drawP, Bool.and_eq_true] at hB
  obtain ⟨⟨⟨hs, hlen⟩, hall⟩, hlex⟩ := hB
  have hlen' := Nat.eq_of_beq_eq_true hlen
  have hall' : (ps.all (fun p => Nat.blt p.2 l.length)) = true := by simpa using hall
  obtain ⟨hal, hpl⟩ := picks_along l ps hall'
  refine wp_mono (Q := QW n w0 R (drawK K)) (wp_region_any hm ?_) (fun e a w q => q.mono fun e f L hk => by cases e <;> first | exact hk | exact hk.elim)
  have hl := h a ha
  have inv0 : Closed .any l.toArray (Array.replicate l.toArray.size false) := ⟨by simp, fun j oj _ hl => (by rw [show (Array.replicate l.toArray.size false).getD j false = false from by rcases Nat.lt_or_ge j l.toArray.size with h | h <;> simp_all] at hl; cases hl)⟩
  have := (LX.gp (md := .any) hs (fun c a w q => by obtain ⟨_, _, _, _, hk⟩ := q; exact hk) ps (picks l ps) _ a _ hal (fun j hj => by
    unfold loudP
    rw [List.any_eq_false]
    intro p hp hb
    rw [Bool.and_eq_true] at hb
    have h1 := Nat.eq_of_beq_eq_true hb.1
    have h2 := List.all_eq_true.1 hall p hp
    have h3 : p.2 < l.toArray.size := Nat.le_of_ble_eq_true h2
    omega) inv0 hlex hl).any _ ⟨L, hL, hw.drew (w.drawn + 1)⟩
  rw [hpl, hlen'] at this
  simpa using this
theorem JX.of {l : List (Nat × Oper)} (h : J P n w0 R l0 K l f L) : JX P n w0 R l0 K l f (fun L' => L' = L) := fun a ha => by
  have e : (fun w => ∃ L', L' = L ∧ H w0 R L' w) = H w0 R L := funext fun w => propext ⟨fun ⟨_, e, h⟩ => e ▸ h, fun h => ⟨L, rfl, h⟩⟩
  rw [e]
  exact h a ha
theorem JC.drawO {id : Nat} {l : List Oper} (ps : List (Nat × Nat)) (hm : P.follows .mixedOrders = true) (hB : drawP ps l.toArray = true)
    (h : J P n w0 R l (drawK K) (picks l ps) f L) : JC P n w0 R (.region id l.toArray true) K f L := JC.drawX (Fam := fun L' => L' = L) ps hm hB rfl (JX.of h)
variable {Γ : List (Nat × TI)} {d : Nat} {op : Op} {ty : TypeId} {pos : String} {aft : Array Edge} {g : Option (Nat × Bool)} {Fam : List Heap → Prop}
end
end Go.Cx
namespace Go.Cx
open Go Go.RowKit
set_option linter.unusedVariables false
set_option linter.unusedSimpArgs false
section
variable {P : Program} {ops : Array Oper} {md : Region.Mode} {Q : Exit → Act → World → Prop}
def GD (P : Program) (md : Region.Mode) (ops : Array Oper) (Q : Exit → Act → World → Prop) (D : World → Prop) (loud gro : Nat → Bool) : (World → Prop) → Nat → Array Bool → Act → Prop
  | C, 0, listed, a => Region.ready md ops listed = [] ∧ ∀ w, C w → Q .normal a w
  | C, fuel + 1, listed, a =>
    (Region.ready md ops listed = [] → ∀ w, C w → Q .normal a w) ∧
    ∀ j ∈ Region.ready md ops listed, (loud j = true ∧ ∀ w, C w → wpOp P ops Q j (fun a' w' => ∃ C' : World → Prop, (gro j = true → ∀ w, C' w → D w) ∧ C' w' ∧ GD P md ops Q D loud gro C' fuel (listed.setIfInBounds j true) a') a w) ∨
      (loud j = false ∧ ∃ oj v, ops[j]? = some oj ∧ YieldsIn P ops C oj v a ∧ GD P md ops Q D loud gro C fuel (listed.setIfInBounds j true) (a.put oj.dst v))
theorem GD.any {D : World → Prop} {loud gro : Nat → Bool} : ∀ {fuel : Nat} {C : World → Prop} {listed : Array Bool} {a : Act}, GD P md ops Q D loud gro C fuel listed a → ∀ w, C w → wpAny P md ops Q fuel listed a w
  | 0, C, _, _, h, w, hw => ⟨h.1, h.2 w hw⟩
  | fuel + 1, C, listed, a, h, w, hw => by
    refine ⟨fun h0 => h.1 h0 w hw, fun j hj => ?_⟩
    rcases h.2 j hj with ⟨_, h1⟩ | ⟨_, oj, v, ho, hy, hg⟩
    · exact wpOp_mono (fun a' w' ⟨C', _, hC', hk⟩ => hk.any w' hC') (h1 w hw)
    · exact wpOp_of_qOp (K := GD P md ops Q D loud gro C fuel (listed.setIfInBounds j true)) hw (fun a' w' hw' hk => hk.any w' hw') (hy.qOp ho hg)
theorem GD.first {D : World → Prop} {loud gro : Nat → Bool} {i : Nat} {oi : Oper} {v : Value} (hi : ops[i]? = some oi) (hsel : ∀ (j : Nat) (o : Oper) cs b, ops[j]? = some o → o.op ≠ .select cs b) (hQ : ∀ c a w, ¬ Q (.panic c) a w) (hil : loud i = false) :
    ∀ (fuel : Nat) (C : World → Prop) (listed : Array Bool) (a : Act), Closed md ops listed →
      (∀ j oj, ops[j]? = some oj → j ≠ i → listed.getD j true = false → (∀ e ∈ oj.after, Region.binds md e = true → e.on ≠ i) → oi.apart ops oj = true) →
      i ∈ Region.ready md ops listed → YieldsIn P ops C oi v a →
      (Yields P ops oi v a ∨ (∀ j, loud j = true → listed.getD j true = false → ∃ f, waitsB md ops i f j = true) ∨ (YieldsIf P ops D oi v a ∧ ∀ j, loud j = true → listed.getD j true = false → gro j = true ∨ ∃ f, waitsB md ops i f j = true)) →
      GD P md ops Q D loud gro C fuel (listed.setIfInBounds i true) (a.put oi.dst v) → GD P md ops Q D loud gro C (fuel + 1) listed a := by
  intro fuel
  induction fuel with
  | zero =>
    intro C listed a inv _ hr hy _ hg
    refine ⟨fun h => (by rw [h] at hr; cases hr), fun j hj => ?_⟩
    by_cases hji : j = i
    · subst hji; exact .inr ⟨hil, oi, v, hi, hy, hg⟩
    · have := ready_mono hj hji
      rw [hg.1] at this
      cases this
  | succ fuel ih =>
    intro C listed a inv hfree hr hy hp hg
    refine ⟨fun h => (by rw [h] at hr; cases hr), fun j hj => ?_⟩
    by_cases hji : j = i
    · subst hji; exact .inr ⟨hil, oi, v, hi, hy, hg⟩
    · obtain ⟨hjun, oj, hoj, hall⟩ := mem_ready.1 hj
      have hiun := (mem_ready.1 hr).1
      have hnot : ∀ e ∈ oj.after, Region.binds md e = true → e.on ≠ i := fun e he hb heq => by
        have h1 := hall e he hb
        rw [heq, getDb hiun] at h1
        cases h1
      have hap := hfree j oj hoj hji hjun hnot
      obtain ⟨h1, h2, h3⟩ := Oper.apart_spec hap
      have hfree' : ∀ k ok, ops[k]? = some ok → k ≠ i → (listed.setIfInBounds j true).getD k true = false →
          (∀ e ∈ ok.after, Region.binds md e = true → e.on ≠ i) → oi.apart ops ok = true := fun k ok hk hki hun hno => by
        refine hfree k ok hk hki ?_ hno
        by_cases hjk : j = k
        · subst hjk; exact hjun
        · rw [getD_set_ne true hjk] at hun; exact hun
      have hun' : ∀ k, (listed.setIfInBounds j true).getD k true = false → listed.getD k true = false := fun k hun => by
        by_cases hjk : j = k
        · subst hjk; exact hjun
        · rw [getD_set_ne true hjk] at hun; exact hun
      rcases hg.2 j (ready_mono hj hji) with ⟨hl, hw⟩ | ⟨hl, oj', u, hoj', hyj, hgj⟩
      · rcases hp with hp | hp | ⟨hp, hpg⟩
        · refine .inl ⟨hl, fun w hC => ?_⟩
          have h4 := wpOp_put hoj hap (fun cs b => hsel i oi cs b hi) (fun cs b => hsel j oj cs b hoj) (fun c a w h => absurd h (hQ c _ w)) hp (hw w hC)
          refine wpOp_mono (fun a' w' ⟨hy', C', hs, hC', hk⟩ => ⟨C', hs, hC', ?_⟩) h4
          rw [← Array.setIfInBounds_comm _ _ hji] at hk
          exact ih C' (listed.setIfInBounds j true) a' (inv.set hj) hfree' (ready_mono hr (Ne.symm hji)) (by
            rcases hy' with ⟨h1, h2⟩ | h1
            · exact .inl ⟨h1, fun w _ => by unfold Oper.quietAt; rw [h2 w]; exact ⟨rfl, rfl⟩⟩
            · exact .inr h1) (.inl hy') hk
        · obtain ⟨fl, hwt⟩ := hp j hl hjun
          have := waitsB_ready inv hwt hj
          rw [getDb hiun] at this
          cases this
        · rcases hpg j hl hjun with hgj | ⟨fl, hwt⟩
          · refine .inl ⟨hl, fun w hC => ?_⟩
            have h4 := wpOp_putIf (S := D) hoj hap (fun cs b => hsel i oi cs b hi) (fun cs b => hsel j oj cs b hoj) (fun c a w h => absurd h (hQ c _ w)) hp (hw w hC)
            refine wpOp_mono (fun a' w' ⟨hy', C', hs, hC', hk⟩ => ⟨C', hs, hC', ?_⟩) h4
            rw [← Array.setIfInBounds_comm _ _ hji] at hk
            have hy2 : YieldsIf P ops C' oi v a' := by
              rcases hy' with ⟨h1, h2⟩ | h1
              · exact .inl ⟨h1, fun w hw => h2 w (hs hgj w hw)⟩
              · exact .inr h1
            exact ih C' (listed.setIfInBounds j true) a' (inv.set hj) hfree' (ready_mono hr (Ne.symm hji)) (by
              rcases hy2 with ⟨h1, h2⟩ | h1
              · exact .inl ⟨h1, fun w hw => by unfold Oper.quietAt; rw [h2 w hw]; exact ⟨rfl, rfl⟩⟩
              · exact .inr h1) (.inr (.inr ⟨hy', fun k hk hun => hpg k hk (hun' k hun)⟩)) hk
          · have := waitsB_ready inv hwt hj
            rw [getDb hiun] at this
            cases this
      · have : oj' = oj := Option.some.inj (hoj'.symm.trans hoj)
        subst this
        have hyj' : YieldsIn P ops C oj' u a := hyj.of_same (execOp_put oj' (fun cs b => hsel j oj' cs b hoj) a oi.dst v h1).symm (wanted_put oj' a oi.dst v h1).symm
        refine .inr ⟨hl, oj', u, hoj, hyj', ?_⟩
        refine ih C (listed.setIfInBounds j true) (a.put oj'.dst u) (inv.set hj) hfree' (ready_mono hr (Ne.symm hji))
          (hy.of_same (execOp_put oi (fun cs b => hsel i oi cs b hi) a oj'.dst u h3) (wanted_put oi a oj'.dst u h3)) ?_ ?_
        · rcases hp with hp | hp | ⟨hp, hpg⟩
          · exact .inl (hp.of_same (execOp_put oi (fun cs b => hsel i oi cs b hi) a oj'.dst u h3) (wanted_put oi a oj'.dst u h3))
          · exact .inr (.inl fun k hk hun => hp k hk (hun' k hun))
          · exact .inr (.inr ⟨hp.of_same (execOp_put oi (fun cs b => hsel i oi cs b hi) a oj'.dst u h3) (wanted_put oi a oj'.dst u h3), fun k hk hun => hpg k hk (hun' k hun)⟩)
        · rw [Array.setIfInBounds_comm _ _ hji, ← Act.put_comm a v u h2]
          exact hgj
def LD (P : Program) (ops : Array Oper) (Q : Exit → Act → World → Prop) (D : World → Prop) : List (Nat × Oper) → Act → (World → Prop) → Prop
  | [], a, C => ∀ w, C w → Q .normal a w
  | (0, o) :: l, a, C => ∃ v, Yields P ops o v a ∧ LD P ops Q D l (a.put o.dst v) C
  | (1, o) :: l, a, C => ∃ v, YieldsIn P ops C o v a ∧ LD P ops Q D l (a.put o.dst v) C
  | (2, o) :: l, a, C => ∀ w, C w → lop P ops Q o (fun a' w' => ∃ C' : World → Prop, C' w' ∧ LD P ops Q D l a' C') a w
  | (3, o) :: l, a, C => ∀ w, C w → lop P ops Q o (fun a' w' => ∃ C' : World → Prop, (∀ w, C' w → D w) ∧ C' w' ∧ LD P ops Q D l a' C') a w
  | (_ + 4, o) :: l, a, C => isLd o.op = true ∧ (∀ w, C w → D w) ∧ ∃ v, YieldsIn P ops D o v a ∧ LD P ops Q D l (a.put o.dst v) C
def lexD (md : Region.Mode) (ops : Array Oper) (loud gro : Nat → Bool) : List (Nat × Nat) → Array Bool → Bool
  | [], listed => (Region.ready md ops listed).isEmpty
  | (0, k) :: ks, listed => !loud k && (Region.ready md ops listed).contains k && Region.free md ops listed k && lexD md ops loud gro ks (listed.setIfInBounds k true)
  | (1, k) :: ks, listed => !loud k && (Region.ready md ops listed).contains k && Region.free md ops listed k && ((List.range ops.size).all fun j => !loud j || listed.getD j true || waitsB md ops k ops.size j) && lexD md ops loud gro ks (listed.setIfInBounds k true)
  | (2, k) :: ks, listed => loud k && !gro k && decide (Region.ready md ops listed = [k]) && lexD md ops loud gro ks (listed.setIfInBounds k true)
  | (3, k) :: ks, listed => loud k && decide (Region.ready md ops listed = [k]) && lexD md ops loud gro ks (listed.setIfInBounds k true)
  | (_ + 4, k) :: ks, listed => !loud k && (Region.ready md ops listed).contains k && Region.free md ops listed k && ((List.range ops.size).all fun j => !loud j || listed.getD j true || gro j || waitsB md ops k ops.size j) && lexD md ops loud gro ks (listed.setIfInBounds k true)
def loudD (ps : List (Nat × Nat)) (j : Nat) : Bool := ps.any fun p => Nat.beq p.2 j && (Nat.beq p.1 2 || Nat.beq p.1 3)
def groD (ps : List (Nat × Nat)) (j : Nat) : Bool := ps.any fun p => Nat.beq p.2 j && Nat.beq p.1 3
def drawD (ps : List (Nat × Nat)) (ops : Array Oper) : Bool := Region.noSelect ops && Nat.beq ps.length ops.size && ps.all (fun p => Nat.blt p.2 ops.size) && lexD .any ops (loudD ps) (groD ps) ps (Array.replicate ops.size false)
theorem loud_step {D C : World → Prop} {loud gro : Nat → Bool} {k : Nat} {o : Oper} {listed : Array Bool} {a : Act} {n : Nat} (hlk : loud k = true) (hr : Region.ready md ops listed = [k]) (h0 : ops[k]? = some o)
    (h : ∀ w, C w → lop P ops Q o (fun a' w' => ∃ C' : World → Prop, (gro k = true → ∀ w, C' w → D w) ∧ C' w' ∧ GD P md ops Q D loud gro C' n (listed.setIfInBounds k true) a') a w) : GD P md ops Q D loud gro C (n + 1) listed a := by
  refine ⟨fun he => (by rw [hr] at he; cases he), fun j hj => ?_⟩
  rw [hr] at hj
  have hjk : j = k := by simpa using hj
  subst hjk
  refine .inl ⟨hlk, fun w hC => ?_⟩
  have hlop := h w hC
  unfold wpOp
  simp only [h0]
  unfold lop at hlop
  split
  · rename_i hg; rw [if_pos hg] at hlop; exact .inl hlop
  · rename_i hg; rw [if_neg hg] at hlop; exact hlop
theorem LD.gd {D : World → Prop} {loud gro : Nat → Bool} (hs : Region.noSelect ops = true) (hQ : ∀ c a w, ¬ Q (.panic c) a w) : ∀ (ps : List (Nat × Nat)) (l : List (Nat × Oper)) (listed : Array Bool) (a : Act) (C : World → Prop), Along ops ps l → (∀ j, ops.size ≤ j → loud j = false) →
    Closed md ops listed → lexD md ops loud gro ps listed = true → LD P ops Q D l a C → GD P md ops Q D loud gro C l.length listed a
  | [], [], listed, a, C, _, _, inv, hB, h => ⟨by simpa [lexD] using hB, h⟩
  | [], _ :: _, _, _, _, hlen, _, _, _, _ => hlen.elim
  | _ :: _, [], _, _, _, hlen, _, _, _, _ => hlen.elim
  | (c, k) :: ks, (c', o) :: l, listed, a, C, ⟨h0, hcc, hl⟩, hlo, inv, hB, h => by
    subst hcc
    have hsz : ∀ j, loud j = true → j < ops.size := fun j hj => by
      rcases Nat.lt_or_ge j ops.size with h' | h'
      · exact h'
      · rw [hlo j h'] at hj; cases hj
    match c, hB, h with
    | 0, hB, h =>
      simp only [lexD, Bool.and_eq_true, Bool.not_eq_true'] at hB
      obtain ⟨⟨⟨hlk, hr⟩, hf⟩, hB'⟩ := hB
      have hr' : k ∈ Region.ready md ops listed := by simpa using hr
      obtain ⟨v, hy, hk⟩ := h
      have hyi : YieldsIn P ops C o v a := by
        rcases hy with ⟨h1, h2⟩ | h1
        · exact .inl ⟨h1, fun w _ => by unfold Oper.quietAt; rw [h2 w]; exact ⟨rfl, rfl⟩⟩
        · exact .inr h1
      exact GD.first h0 (Region.noSelect_spec hs) hQ hlk l.length C listed a inv (Region.free_spec h0 hf) hr' hyi (.inl hy) (LD.gd hs hQ ks l _ _ C hl hlo (inv.set hr') hB' hk)
    | 1, hB, h =>
      simp only [lexD, Bool.and_eq_true, Bool.not_eq_true'] at hB
      obtain ⟨⟨⟨⟨hlk, hr⟩, hf⟩, hw⟩, hB'⟩ := hB
      have hr' : k ∈ Region.ready md ops listed := by simpa using hr
      obtain ⟨v, hy, hk⟩ := h
      refine GD.first h0 (Region.noSelect_spec hs) hQ hlk l.length C listed a inv (Region.free_spec h0 hf) hr' hy (.inr (.inl fun j hj hun => ⟨ops.size, ?_⟩)) (LD.gd hs hQ ks l _ _ C hl hlo (inv.set hr') hB' hk)
      have := List.all_eq_true.1 hw j (List.mem_range.2 (hsz j hj))
      simp only [Bool.or_eq_true, Bool.not_eq_true', hj, hun] at this
      rcases this with (h' | h') | h'
      · cases h'
      · cases h'
      · exact h'
    | 2, hB, h =>
      simp only [lexD, Bool.and_eq_true, Bool.not_eq_true', decide_eq_true_eq] at hB
      obtain ⟨⟨⟨hlk, hgk⟩, hr⟩, hB'⟩ := hB
      have hr' : k ∈ Region.ready md ops listed := by rw [hr]; simp
      exact loud_step hlk hr h0 (fun w hC => lop_mono (fun a' w' ⟨C', hC', hk⟩ => ⟨C', fun hg => (by rw [hgk] at hg; cases hg), hC', LD.gd hs hQ ks l _ _ C' hl hlo (inv.set hr') hB' hk⟩) (h w hC))
    | 3, hB, h =>
      simp only [lexD, Bool.and_eq_true, Bool.not_eq_true', decide_eq_true_eq] at hB
      obtain ⟨⟨hlk, hr⟩, hB'⟩ := hB
      have hr' : k ∈ Region.ready md ops listed := by rw [hr]; simp
      exact loud_step hlk hr h0 (fun w hC => lop_mono (fun a' w' ⟨C', hD, hC', hk⟩ => ⟨C', fun _ => hD, hC', LD.gd hs hQ ks l _ _ C' hl hlo (inv.set hr') hB' hk⟩) (h w hC))
    | c + 4, hB, h =>
      simp only [lexD, Bool.and_eq_true, Bool.not_eq_true'] at hB
      obtain ⟨⟨⟨⟨hlk, hr⟩, hf⟩, hw⟩, hB'⟩ := hB
      have hr' : k ∈ Region.ready md ops listed := by simpa using hr
      obtain ⟨hld, hsub, v, hy, hk⟩ := h
      have hyi : YieldsIn P ops C o v a := by
        rcases hy with ⟨h1, h2⟩ | h1
        · exact .inl ⟨h1, fun w hw => by
            have h3 := yieldsIn_ld (C := D) hld (.inl ⟨h1, h2⟩)
            rcases h3 with ⟨_, h4⟩ | h4
            · unfold Oper.quietAt; rw [h4 w (hsub w hw)]; exact ⟨rfl, rfl⟩
            · rw [h1] at h4; simp at h4⟩
        · exact .inr h1
      refine GD.first h0 (Region.noSelect_spec hs) hQ hlk l.length C listed a inv (Region.free_spec h0 hf) hr' hyi (.inr (.inr ⟨yieldsIn_ld hld hy, fun j hj hun => ?_⟩)) (LD.gd hs hQ ks l _ _ C hl hlo (inv.set hr') hB' hk)
      have := List.all_eq_true.1 hw j (List.mem_range.2 (hsz j hj))
      simp only [Bool.or_eq_true, Bool.not_eq_true', hj, hun] at this
      rcases this with ((h' | h') | h') | h'
      · cases h'
      · cases h'
      · exact .inl h'
      · exact .inr ⟨ops.size, h'⟩
end
section
variable {P : Program} {n : Nat} {w0 : World} {R : Heap} {K : Exit → Fr → List Heap → Prop} {f : Fr} {L L0 : List Heap} {l0 : List Oper} {rest : List (Nat × Oper)} {o : Oper}
def JD (P : Program) (n : Nat) (w0 : World) (R : Heap) (L0 : List Heap) (l0 : List Oper) (K : Exit → Fr → List Heap → Prop) (l : List (Nat × Oper)) (f : Fr) (L : List Heap) : Prop :=
  ∀ a, Rep n f a → LD P l0.toArray (QW n w0 R K) (H w0 R L0) l a (H w0 R L)
theorem JC.drawD {id : Nat} {l : List Oper} (L0 : List Heap) (ps : List (Nat × Nat)) (hm : P.follows .mixedOrders = true) (hB : drawD ps l.toArray = true)
    (h : JD P n w0 R L0 l (drawK K) (picks l ps) f L) : JC P n w0 R (.region id l.toArray true) K f L := fun a w ha hw => by
  simp only [Cx.drawD, Bool.and_eq_true] at hB
  obtain ⟨⟨⟨hs, hlen⟩, hall⟩, hlex⟩ := hB
  have hlen' := Nat.eq_of_beq_eq_true hlen
  have hall' : (ps.all (fun p => Nat.blt p.2 l.length)) = true := by simpa using hall
  obtain ⟨hal, hpl⟩ := picks_along l ps hall'
  refine wp_mono (Q := QW n w0 R (drawK K)) (wp_region_any hm ?_) (fun e a w q => q.mono fun e f L hk => by cases e <;> first | exact hk | exact hk.elim)
  have hl := h a ha
  have inv0 : Closed .any l.toArray (Array.replicate l.toArray.size false) := ⟨by simp, fun j oj _ hl => (by rw [show (Array.replicate l.toArray.size false).getD j false = false from by rcases Nat.lt_or_ge j l.toArray.size with h | h <;> simp_all] at hl; cases hl)⟩
  have := (LD.gd (md := .any) hs (fun c a w q => by obtain ⟨_, _, _, _, hk⟩ := q; exact hk) ps (picks l ps) _ a _ hal (fun j hj => by
    unfold loudD
    rw [List.any_eq_false]
    intro p hp hb
    rw [Bool.and_eq_true] at hb
    have h1 := Nat.eq_of_beq_eq_true hb.1
    have h2 := List.all_eq_true.1 hall p hp
    have h3 : p.2 < l.toArray.size := Nat.le_of_ble_eq_true h2
    omega) inv0 hlex hl).any _ (hw.drew (w.drawn + 1))
  rw [hpl, hlen'] at this
  simpa using this
variable {Γ : List (Nat × TI)} {d : Nat} {op : Op} {ty : TypeId} {pos : String} {aft : Array Edge} {g : Option (Nat × Bool)}
theorem JD.nil (h : K .normal f L) : JD P n w0 R L0 l0 K [] f L := fun _ ha _ hw => ⟨f, L, ha, hw, h⟩
theorem JD.p {v : Value} (hg : wantB n f l0 o = true) (hv : ∀ w, (execOp (ev n f) o).run P w = .ok (.value v) w) (k : JD P n w0 R L0 l0 K rest (updO f o.dst v) L) : JD P n w0 R L0 l0 K ((0, o) :: rest) f L := fun a ha => by
  have hw : Region.wanted o (yielded l0.toArray a.tmps) = true := by rw [ha.wanted, hg]
  exact ⟨v, .inl ⟨hw, fun w => by rw [ha.eval]; exact hv w⟩, k _ (ha.put o.dst v)⟩
theorem JD.ev {v : Value} (hΓ : Fits P Γ) (k : JD P n w0 R L0 l0 K rest (upd f d v) L) (hg : wantB n f l0 ⟨some d, op, ty, pos, aft, g⟩ = true := by exact rfl) (h : pureEv Γ (Cx.ev n f) op = some v := by exact rfl) : JD P n w0 R L0 l0 K ((0, ⟨some d, op, ty, pos, aft, g⟩) :: rest) f L :=
  JD.p hg (fun w => pure_ok hΓ h w) k
theorem JD.bd {t : TypeId} {parts : List (Nat × Operand)} {ps : List (Nat × List Value)} {cl : List Value} (hΓ : Fits P Γ) (k : JD P n w0 R L0 l0 K rest (upd f d (.agg ⟨cl⟩)) L) (hg : wantB n f l0 ⟨some d, .build t ⟨parts⟩, ty, pos, aft, g⟩ = true := by exact rfl) (hp : partsEv (Cx.ev n f) parts = some ps := by exact rfl) (h : buildEv Γ t ps = some cl := by exact rfl) : JD P n w0 R L0 l0 K ((0, ⟨some d, .build t ⟨parts⟩, ty, pos, aft, g⟩) :: rest) f L :=
  JD.p hg (fun w => by
    have := buildEv_ok (P := P) hΓ hp h w
    simp only [execOp, Sem.run_bind]
    rw [this]
    rfl) k
theorem JD.ld {t : TypeId} {x : Operand} {b off κ : Nat} {cs : List Value} {e : TypeId} {fr : Nat × Nat} {v : Value} (hΓ : Fits P Γ) (hsub : ∀ w, H w0 R L w → H w0 R L0 w) (hr : Rd R L0 b (.cells ⟨cs⟩ e fr)) (k : JD P n w0 R L0 l0 K rest (upd f d v) L)
    (hg : wantB n f l0 ⟨some d, .load t x, ty, pos, aft, g⟩ = true := by exact rfl) (hp : Cx.ev n f x = .pointer (some ⟨b, off, none⟩) := by exact rfl) (hv : ldEv Γ t cs off = some v := by exact rfl) : JD P n w0 R L0 l0 K ((κ + 4, ⟨some d, .load t x, ty, pos, aft, g⟩) :: rest) f L := fun a ha => by
  have hw : Region.wanted (⟨some d, .load t x, ty, pos, aft, g⟩ : Oper) (yielded l0.toArray a.tmps) = true := by rw [ha.wanted, hg]
  refine ⟨rfl, hsub, v, .inl ⟨hw, fun w hH => ?_⟩, k _ (ha.put (some d) v)⟩
  unfold Oper.quietAt
  rw [ha.eval, Qt.load (P := P) hΓ hp hr hv w hH]
  exact ⟨rfl, rfl⟩
theorem JD.callvx {fid : FuncId} {x : Operand} {xs : List Operand} {ats : Array TypeId} {vs cp : List Value} {Φ : Value → List Heap → Prop} (he : Entr P fid) (hx : Cx.ev n f x = .func (.func fid) ⟨[]⟩ ⟨cp⟩) (hg : wantB n f l0 ⟨some d, .call ⟨.value x, ⟨xs⟩, ats⟩, ty, pos, aft, g⟩ = true) (ha : argsEv (Cx.ev n f) xs = some vs)
    (hc : ∀ w, H w0 R L w → Calls P fid ⟨vs ++ cp⟩ w fun e w' => ∃ v L', e = .returned v ∧ H w0 R L' w' ∧ Φ v L') (k : ∀ v L', Φ v L' → JD P n w0 R L0 l0 K rest (upd f d v) L') : JD P n w0 R L0 l0 K ((2, ⟨some d, .call ⟨.value x, ⟨xs⟩, ats⟩, ty, pos, aft, g⟩) :: rest) f L := fun a ha' w hH => by
  have hw : Region.wanted (⟨some d, .call ⟨.value x, ⟨xs⟩, ats⟩, ty, pos, aft, g⟩ : Oper) (yielded l0.toArray a.tmps) = true := by rw [ha'.wanted, hg]
  unfold lop
  rw [if_pos hw]
  unfold Oper.wp
  rw [ha'.eval, callv_run he hx ha w]
  refine (hc w hH).mono ?_
  rintro e w' ⟨v, L', rfl, hw', hP⟩
  exact ⟨_, hw', k v L' hP _ (ha'.put (some d) v)⟩
theorem JD.callvd {fid : FuncId} {x : Operand} {xs : List Operand} {ats : Array TypeId} {vs cp : List Value} {Φ : Value → List Heap → Prop} (he : Entr P fid) (hx : Cx.ev n f x = .func (.func fid) ⟨[]⟩ ⟨cp⟩) (hg : wantB n f l0 ⟨some d, .call ⟨.value x, ⟨xs⟩, ats⟩, ty, pos, aft, g⟩ = true) (ha : argsEv (Cx.ev n f) xs = some vs)
    (hc : ∀ w, H w0 R L w → Calls P fid ⟨vs ++ cp⟩ w fun e w' => ∃ v L', e = .returned v ∧ H w0 R L' w' ∧ Φ v L') (k : ∀ v L', Φ v L' → (∀ w, H w0 R L' w → H w0 R L0 w) ∧ JD P n w0 R L0 l0 K rest (upd f d v) L') : JD P n w0 R L0 l0 K ((3, ⟨some d, .call ⟨.value x, ⟨xs⟩, ats⟩, ty, pos, aft, g⟩) :: rest) f L := fun a ha' w hH => by
  have hw : Region.wanted (⟨some d, .call ⟨.value x, ⟨xs⟩, ats⟩, ty, pos, aft, g⟩ : Oper) (yielded l0.toArray a.tmps) = true := by rw [ha'.wanted, hg]
  unfold lop
  rw [if_pos hw]
  unfold Oper.wp
  rw [ha'.eval, callv_run he hx ha w]
  refine (hc w hH).mono ?_
  rintro e w' ⟨v, L', rfl, hw', hP⟩
  exact ⟨_, (k v L' hP).1, hw', (k v L' hP).2 _ (ha'.put (some d) v)⟩
end
end Go.Cx
