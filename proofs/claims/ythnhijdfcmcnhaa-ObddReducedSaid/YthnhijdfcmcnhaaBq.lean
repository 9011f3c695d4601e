/- Bits counted in fields: the plain law of OnesCount64. -/
import Derived.Test.YthnhijdfcmcnhaaCxT
import Derived.Test.YthnhijdfcmcnhaaCxO
import Derived.Test.YthnhijdfcmcnhaaCxV
import Derived.Test.YthnhijdfcmcnhaaCxS
namespace Go.Proofs.Ythnhijdfcmcnhaa
open Go Go.Cx
set_option linter.unusedVariables false
set_option linter.unusedSimpArgs false
/-- the number of ones among the lowest n bits -/
def pc : Nat → Nat → Nat
  | 0, _ => 0
  | n + 1, x => x % 2 + pc n (x / 2)
theorem pc_add (m n x : Nat) : pc (m + n) x = pc m x + pc n (x / 2 ^ m) := by
  induction m generalizing x with
  | zero => simp [pc]
  | succ m ih =>
    rw [show m + 1 + n = (m + n) + 1 by omega, pc, pc, ih, Nat.div_div_eq_div_mul, ← Nat.pow_succ', Nat.add_assoc]
theorem pc_mod (n x : Nat) : pc n (x % 2 ^ n) = pc n x := by
  induction n generalizing x with
  | zero => rfl
  | succ n ih =>
    rw [pc, pc, ← ih (x / 2)]
    have h1 : x % 2 ^ (n + 1) % 2 = x % 2 := Nat.mod_mod_of_dvd _ ⟨2 ^ n, by rw [Nat.pow_succ, Nat.mul_comm]⟩
    have h2 : x % 2 ^ (n + 1) / 2 = x / 2 % 2 ^ n := by rw [Nat.pow_succ', Nat.mod_mul_right_div_self]
    rw [h1, h2]
theorem pc_bits (n x : Nat) : pc n x = (List.range n).countP x.testBit := by
  induction n generalizing x with
  | zero => rfl
  | succ n ih =>
    rw [pc, ih, List.range_succ_eq_map, List.countP_cons, List.countP_map]
    have : (x.testBit ∘ Nat.succ) = (x / 2).testBit := by funext i; simp [Nat.testBit_succ]
    rw [this, Nat.testBit_zero, Nat.add_comm]
    congr 1
    rcases Nat.mod_two_eq_zero_or_one x with h | h <;> simp [h]
/-- a field parts the bits of an and -/
theorem and_split (k a1 a0 m1 m0 : Nat) (ha : a0 < 2 ^ k) (hm : m0 < 2 ^ k) : (2 ^ k * a1 + a0) &&& (2 ^ k * m1 + m0) = 2 ^ k * (a1 &&& m1) + (a0 &&& m0) := by
  have hb : a0 &&& m0 < 2 ^ k := Nat.and_lt_two_pow _ hm
  apply Nat.eq_of_testBit_eq
  intro i
  rw [Nat.testBit_and, Nat.testBit_two_pow_mul_add _ ha, Nat.testBit_two_pow_mul_add _ hm, Nat.testBit_two_pow_mul_add _ hb]
  split
  · rw [Nat.testBit_and]
  · rw [Nat.testBit_and]
def rep (c : Nat) : Nat → Nat
  | 0 => 0
  | n + 1 => 256 * rep c n + c
/-- a step of adding neighbours: fields of s bits -/
def st (c s n x : Nat) : Nat := ((x / 2 ^ s) &&& rep c n) + (x &&& rep c n)
def st8 (c s x : Nat) : Nat := ((x / 2 ^ s) &&& c) + (x &&& c)
theorem st_split (c s : Nat) (hs : s ≤ 8) (hc : c < 256) (hlow : ∀ r, r < 2 ^ s → ∀ q, q < 2 ^ (8 - s) → ((2 ^ (8 - s) * r + q) &&& c) = (q &&& c)) (n a1 a0 : Nat) (h0 : a0 < 256) : st c s (n + 1) (256 * a1 + a0) = 256 * st c s n a1 + st8 c s a0 := by
  have h8 : 2 ^ (8 - s) * 2 ^ s = 256 := by rw [← Nat.pow_add, Nat.sub_add_cancel hs]
  have hp : 0 < 2 ^ s := Nat.two_pow_pos s
  have e : (256 * a1 + a0) / 2 ^ s = 2 ^ 8 * (a1 / 2 ^ s) + (2 ^ (8 - s) * (a1 % 2 ^ s) + a0 / 2 ^ s) := by
    have h1 := Nat.div_add_mod a1 (2 ^ s)
    have h2 : 256 * a1 + a0 = 2 ^ s * (2 ^ (8 - s) * a1) + a0 := by rw [← Nat.mul_assoc, Nat.mul_comm (2 ^ s), h8]
    rw [h2, Nat.mul_add_div hp]
    have h3 : 2 ^ (8 - s) * a1 = 2 ^ 8 * (a1 / 2 ^ s) + 2 ^ (8 - s) * (a1 % 2 ^ s) := by
      conv => lhs; rw [← h1]
      rw [Nat.mul_add, ← Nat.mul_assoc, h8]
    omega
  have hq : a0 / 2 ^ s < 2 ^ (8 - s) := by rw [Nat.div_lt_iff_lt_mul hp, h8]; exact h0
  have hr : a1 % 2 ^ s < 2 ^ s := Nat.mod_lt _ hp
  have hlo : 2 ^ (8 - s) * (a1 % 2 ^ s) + a0 / 2 ^ s < 2 ^ 8 := by
    have : 2 ^ (8 - s) * (a1 % 2 ^ s + 1) ≤ 2 ^ (8 - s) * 2 ^ s := Nat.mul_le_mul_left _ hr
    rw [h8, Nat.mul_add] at this
    omega
  unfold st st8
  rw [e, rep]
  have g1 := and_split 8 (a1 / 2 ^ s) (2 ^ (8 - s) * (a1 % 2 ^ s) + a0 / 2 ^ s) (rep c n) c hlo hc
  have g2 := and_split 8 a1 a0 (rep c n) c h0 hc
  rw [show (256 : Nat) = 2 ^ 8 from rfl, g1, g2, hlow _ hr _ hq]
  omega
theorem st1_low : ∀ r, r < 2 ^ 1 → ∀ q, q < 2 ^ (8 - 1) → ((2 ^ (8 - 1) * r + q) &&& 85) = (q &&& 85) := by decide +kernel
theorem st2_low : ∀ r, r < 2 ^ 2 → ∀ q, q < 2 ^ (8 - 2) → ((2 ^ (8 - 2) * r + q) &&& 51) = (q &&& 51) := by decide +kernel
/-- bytes, the lowest first -/
def ofB : List Nat → Nat
  | [] => 0
  | c :: l => 256 * ofB l + c
theorem st1_bytes : ∀ (l : List Nat), (∀ c ∈ l, c < 256) → st 85 1 l.length (ofB l) = ofB (l.map (st8 85 1))
  | [], _ => by simp [st, ofB, rep]
  | c :: l, h => by
    rw [List.length_cons, ofB, st_split 85 1 (by omega) (by omega) st1_low _ _ _ (h c (by simp)), st1_bytes l fun x hx => h x (by simp [hx])]; rfl
theorem st2_bytes : ∀ (l : List Nat), (∀ c ∈ l, c < 256) → st 51 2 l.length (ofB l) = ofB (l.map (st8 51 2))
  | [], _ => by simp [st, ofB, rep]
  | c :: l, h => by
    rw [List.length_cons, ofB, st_split 51 2 (by omega) (by omega) st2_low _ _ _ (h c (by simp)), st2_bytes l fun x hx => h x (by simp [hx])]; rfl
def t3 (n x : Nat) : Nat := (x / 16 + x) &&& rep 15 n
def t8 (x : Nat) : Nat := (x / 16 + x) &&& 15
theorem t3_low : ∀ r, r < 16 → ∀ q, q < 256 → ((16 * r + q) % 256 &&& 15) = (q &&& 15) := by decide +kernel
theorem t3_bytes : ∀ (l : List Nat), (∀ c ∈ l, c ≤ 68 ∧ c % 16 ≤ 4) → t3 l.length (ofB l) = ofB (l.map t8)
  | [], _ => by simp [t3, ofB, rep]
  | c :: l, h => by
    obtain ⟨hc, hm⟩ := h c (by simp)
    have h4 : ofB l % 16 ≤ 4 := by
      cases l with
      | nil => simp [ofB]
      | cons d l => have := (h d (by simp)).2; simp only [ofB]; omega
    have e : ofB (c :: l) / 16 + ofB (c :: l) = 2 ^ 8 * (ofB l / 16 + ofB l) + (16 * (ofB l % 16) + (c / 16 + c)) := by
      simp only [ofB]; omega
    have hlo : 16 * (ofB l % 16) + (c / 16 + c) < 2 ^ 8 := by omega
    rw [List.length_cons]
    unfold t3
    rw [e, rep, show (256 : Nat) = 2 ^ 8 from rfl, and_split 8 _ _ _ _ hlo (by omega)]
    have g := t3_low (ofB l % 16) (by omega) (c / 16 + c) (by omega)
    rw [Nat.mod_eq_of_lt hlo] at g
    have ih := t3_bytes l fun x hx => h x (by simp [hx])
    unfold t3 at ih
    rw [ih, g]
    show _ = 256 * ofB (l.map t8) + t8 c
    rfl
theorem byte_ok : ∀ c, c < 256 → st8 85 1 c < 256 ∧ st8 51 2 (st8 85 1 c) ≤ 68 ∧ st8 51 2 (st8 85 1 c) % 16 ≤ 4 ∧ t8 (st8 51 2 (st8 85 1 c)) = pc 8 c := by decide +kernel
theorem pc8_le : ∀ c, c < 256 → pc 8 c ≤ 8 := by decide +kernel
def bytes8 (x : Nat) : List Nat := [x % 256, x / 256 % 256, x / 65536 % 256, x / 16777216 % 256, x / 4294967296 % 256, x / 1099511627776 % 256, x / 281474976710656 % 256, x / 72057594037927936 % 256]
theorem ofB_bytes8 (x : Nat) (h : x < 18446744073709551616) : ofB (bytes8 x) = x := by
  simp only [ofB, bytes8]; omega
theorem bytes8_lt (x : Nat) : ∀ c ∈ bytes8 x, c < 256 := by
  intro c hc
  simp only [bytes8, List.mem_cons, List.not_mem_nil, or_false] at hc
  rcases hc with rfl | rfl | rfl | rfl | rfl | rfl | rfl | rfl <;> exact Nat.mod_lt _ (by omega)
theorem pc64 (x : Nat) : pc 64 x = ((bytes8 x).map (pc 8)).sum := by
  have e : ∀ n y, pc (8 + n) y = pc 8 (y % 256) + pc n (y / 256) := fun n y => by
    rw [pc_add 8 n y]
    have := pc_mod 8 y
    rw [show (2 : Nat) ^ 8 = 256 from rfl] at this ⊢
    rw [this]
  rw [show (64 : Nat) = 8 + (8 + (8 + (8 + (8 + (8 + (8 + (8 + 0))))))) from rfl, e, e, e, e, e, e, e, e]
  simp only [bytes8, List.map_cons, List.map_nil, List.sum_cons, List.sum_nil, pc, Nat.div_div_eq_div_mul]
theorem ofB_le (m : Nat) : ∀ (l : List Nat), (∀ c ∈ l, c ≤ m) → ofB l ≤ m * rep 1 l.length
  | [], _ => by simp [ofB, rep]
  | c :: l, h => by
    have ih := ofB_le m l fun x hx => h x (by simp [hx])
    have hc := h c (by simp)
    rw [ofB, List.length_cons, rep, Nat.mul_add, Nat.mul_one, Nat.mul_left_comm]
    omega
theorem rep85 : rep 85 8 = 6148914691236517205 := by decide +kernel
theorem rep51 : rep 51 8 = 3689348814741910323 := by decide +kernel
theorem rep15 : rep 15 8 = 1085102592571150095 := by decide +kernel
theorem rep1 : rep 1 8 = 72340172838076673 := by decide +kernel
theorem bytes8_len (x : Nat) : (bytes8 x).length = 8 := rfl
/-- the whole of it -/
theorem ones_law (x : Nat) (h : x < 18446744073709551616) : ∀ a b c d e f, a = ((x / 2) &&& 6148914691236517205) + (x &&& 6148914691236517205) → b = ((a / 4) &&& 3689348814741910323) + (a &&& 3689348814741910323) → c = (b / 16 + b) &&& 1085102592571150095 →
    d = c + c / 256 → e = d + d / 65536 → f = e + e / 4294967296 → a < 18446744073709551616 ∧ b < 18446744073709551616 ∧ b / 16 + b < 18446744073709551616 ∧ d < 18446744073709551616 ∧ e < 18446744073709551616 ∧ f < 9223372036854775808 ∧ f % 128 = pc 64 x := by
  intro a b c d e f ha hb hc hd he hf
  have h1 := st1_bytes (bytes8 x) (bytes8_lt x)
  rw [ofB_bytes8 x h, bytes8_len, st, rep85] at h1
  have a1 : a = ofB ((bytes8 x).map (st8 85 1)) := ha.trans h1
  have l1 : ∀ y ∈ (bytes8 x).map (st8 85 1), y < 256 := fun y hy => by obtain ⟨z, hz, rfl⟩ := List.mem_map.1 hy; exact (byte_ok z (bytes8_lt x z hz)).1
  have h2 := st2_bytes ((bytes8 x).map (st8 85 1)) l1
  rw [← a1, List.length_map, bytes8_len, st, rep51] at h2
  have b1 : b = ofB (((bytes8 x).map (st8 85 1)).map (st8 51 2)) := hb.trans h2
  have l2 : ∀ y ∈ ((bytes8 x).map (st8 85 1)).map (st8 51 2), y ≤ 68 ∧ y % 16 ≤ 4 := fun y hy => by
    obtain ⟨u, hu, rfl⟩ := List.mem_map.1 hy
    obtain ⟨z, hz, rfl⟩ := List.mem_map.1 hu
    exact ⟨(byte_ok z (bytes8_lt x z hz)).2.1, (byte_ok z (bytes8_lt x z hz)).2.2.1⟩
  have h3 := t3_bytes (((bytes8 x).map (st8 85 1)).map (st8 51 2)) l2
  rw [← b1, List.length_map, List.length_map, bytes8_len, t3, rep15] at h3
  have c1 : c = ofB ((((bytes8 x).map (st8 85 1)).map (st8 51 2)).map t8) := hc.trans h3
  have c2 : (((bytes8 x).map (st8 85 1)).map (st8 51 2)).map t8 = (bytes8 x).map (pc 8) := by
    rw [List.map_map, List.map_map]
    exact List.map_congr_left fun z hz => (byte_ok z (bytes8_lt x z hz)).2.2.2
  rw [c2] at c1
  have ga := ofB_le 255 _ (fun y hy => Nat.le_of_lt_succ (l1 y hy))
  have gb := ofB_le 68 _ (fun y hy => (l2 y hy).1)
  rw [← a1, List.length_map, bytes8_len, rep1] at ga
  rw [← b1, List.length_map, List.length_map, bytes8_len, rep1] at gb
  have p8 : ∀ y ∈ bytes8 x, pc 8 y ≤ 8 := fun y hy => pc8_le y (bytes8_lt x y hy)
  rw [pc64]
  clear a1 l1 h2 b1 l2 h3 c2 h1 ha hb hc
  simp only [bytes8, List.map_cons, List.map_nil, ofB, List.sum_cons, List.sum_nil] at c1 p8 ⊢
  have q0 := p8 (x % 256) (by simp)
  have q1 := p8 (x / 256 % 256) (by simp)
  have q2 := p8 (x / 65536 % 256) (by simp)
  have q3 := p8 (x / 16777216 % 256) (by simp)
  have q4 := p8 (x / 4294967296 % 256) (by simp)
  have q5 := p8 (x / 1099511627776 % 256) (by simp)
  have q6 := p8 (x / 281474976710656 % 256) (by simp)
  have q7 := p8 (x / 72057594037927936 % 256) (by simp)
  clear p8
  generalize pc 8 (x % 256) = c0 at *
  generalize pc 8 (x / 256 % 256) = c1' at *
  generalize pc 8 (x / 65536 % 256) = c2 at *
  generalize pc 8 (x / 16777216 % 256) = c3 at *
  generalize pc 8 (x / 4294967296 % 256) = c4 at *
  generalize pc 8 (x / 1099511627776 % 256) = c5 at *
  generalize pc 8 (x / 281474976710656 % 256) = c6 at *
  generalize pc 8 (x / 72057594037927936 % 256) = c7 at *
  -- the sums, field by field
  have d1 : d = ofB [c0 + c1', c1' + c2, c2 + c3, c3 + c4, c4 + c5, c5 + c6, c6 + c7, c7] := by
    have : c / 256 = ofB [c1', c2, c3, c4, c5, c6, c7] := by rw [c1]; simp only [ofB]; omega
    rw [hd, this, c1]; simp only [ofB]; omega
  have e1 : e = ofB [c0 + c1' + (c2 + c3), c1' + c2 + (c3 + c4), c2 + c3 + (c4 + c5), c3 + c4 + (c5 + c6), c4 + c5 + (c6 + c7), c5 + c6 + c7, c6 + c7, c7] := by
    have : d / 65536 = ofB [c2 + c3, c3 + c4, c4 + c5, c5 + c6, c6 + c7, c7] := by rw [d1]; simp only [ofB]; omega
    rw [he, this, d1]; simp only [ofB]; omega
  have f1 : f = e + ofB [c4 + c5 + (c6 + c7), c5 + c6 + c7, c6 + c7, c7] := by
    have : e / 4294967296 = ofB [c4 + c5 + (c6 + c7), c5 + c6 + c7, c6 + c7, c7] := by rw [e1]; simp only [ofB]; omega
    rw [hf, this]
  simp only [ofB] at d1 e1 f1
  refine ⟨by omega, by omega, by omega, by omega, by omega, by omega, by omega⟩
end Go.Proofs.Ythnhijdfcmcnhaa

/- Rules for words: u8, u32, u64, int, by their numbers; OnesCount64. -/
namespace Go.Proofs.Ythnhijdfcmcnhaa
open Go Go.Cx Go.RowKit
set_option linter.unusedVariables false
set_option linter.unusedSimpArgs false
set_option maxHeartbeats 4000000
attribute [local irreducible] J JC thenK blockK loopK roundK drawK retK QW Qt pel List.set Calls
set_option maxRecDepth 8000
theorem wU64 {r : Nat} (h : r < 18446744073709551616) : IntKind.u64.wrap (r : Int) = (r : Int) := IntWalk.u64_in _ (by omega)
theorem wU32 {r : Nat} (h : r < 4294967296) : IntKind.u32.wrap (r : Int) = (r : Int) := IntWalk.u32_in _ (by omega)
theorem wU8 {r : Nat} (h : r < 256) : IntKind.u8.wrap (r : Int) = (r : Int) := IntWalk.u8_in _ (by omega)
theorem wI64 {r : Nat} (h : r < 9223372036854775808) : IntKind.i64.wrap (r : Int) = (r : Int) := IntWalk.i64_in _ (by omega)
theorem wT32 (r : Nat) : IntKind.u32.wrap (r : Int) = ((r % 4294967296 : Nat) : Int) := by rw [IntKind.wrap_u32]; rfl
theorem wT8 (r : Nat) : IntKind.u8.wrap (r : Int) = ((r % 256 : Nat) : Int) := by rw [IntKind.wrap_u8]; rfl
theorem bv_g (k m : Nat) (hm : m < 2 ^ k) : (BitVec.ofInt k (m : Int)).toNat = m := by
  have : BitVec.ofInt k (m : Int) = BitVec.ofNat k m := by simp
  rw [this, BitVec.toNat_ofNat, Nat.mod_eq_of_lt hm]
section
variable {P : Program} {n : Nat} {w0 : World} {R : Heap} {l0 : List Oper} {K : Exit → Fr → List Heap → Prop} {f : Fr} {L : List Heap} {rest : List (Nat × Oper)} {κ : Nat} {Γ : List (Nat × TI)}
variable {d : Nat} {ty : TypeId} {pos : String} {aft : Array Edge} {g : Option (Nat × Bool)} {t u : TypeId} {x y : Operand} {k : IntKind} {a b : Nat}
theorem J.gadd (kk : J P n w0 R l0 K rest (upd f d (.int k ((a + b : Nat) : Int))) L) (hg : wantB n f l0 ⟨some d, .binOp .add t x y u, ty, pos, aft, g⟩ = true := by exact rfl) (hx : Cx.ev n f x = .int k (a : Int) := by exact rfl) (hy : Cx.ev n f y = .int k (b : Int) := by exact rfl) (hw : k.wrap ((a + b : Nat) : Int) = ((a + b : Nat) : Int) := by first | exact wU64 (by omega) | exact wU32 (by omega)) : J P n w0 R l0 K ((κ, ⟨some d, .binOp .add t x y u, ty, pos, aft, g⟩) :: rest) f L :=
  J.p hg (bin_run hx hy (fun w => by
    have h1 : k.wrap ((a : Int) + (b : Int)) = ((a + b : Nat) : Int) := hw
    simp [binOp, Op.intArith, h1, go_sem])) kk
theorem J.gsub (kk : J P n w0 R l0 K rest (upd f d (.int k ((a - b : Nat) : Int))) L) (hg : wantB n f l0 ⟨some d, .binOp .sub t x y u, ty, pos, aft, g⟩ = true := by exact rfl) (hx : Cx.ev n f x = .int k (a : Int) := by exact rfl) (hy : Cx.ev n f y = .int k (b : Int) := by exact rfl) (hb : b ≤ a := by omega) (hw : k.wrap ((a - b : Nat) : Int) = ((a - b : Nat) : Int) := by first | exact wI64 (by omega) | exact wU64 (by omega) | exact wU32 (by omega)) : J P n w0 R l0 K ((κ, ⟨some d, .binOp .sub t x y u, ty, pos, aft, g⟩) :: rest) f L :=
  J.p hg (bin_run hx hy (fun w => by
    have h0 : (a : Int) - (b : Int) = ((a - b : Nat) : Int) := by omega
    have h1 : k.wrap ((a : Int) - (b : Int)) = ((a - b : Nat) : Int) := by rw [h0]; exact hw
    simp [binOp, Op.intArith, h1, go_sem])) kk
theorem J.gmul (kk : J P n w0 R l0 K rest (upd f d (.int k ((a * b : Nat) : Int))) L) (hg : wantB n f l0 ⟨some d, .binOp .mul t x y u, ty, pos, aft, g⟩ = true := by exact rfl) (hx : Cx.ev n f x = .int k (a : Int) := by exact rfl) (hy : Cx.ev n f y = .int k (b : Int) := by exact rfl) (hw : k.wrap ((a * b : Nat) : Int) = ((a * b : Nat) : Int) := by first | exact wU64 (by omega) | exact wU32 (by omega)) : J P n w0 R l0 K ((κ, ⟨some d, .binOp .mul t x y u, ty, pos, aft, g⟩) :: rest) f L :=
  J.p hg (bin_run hx hy (fun w => by
    have h1 : k.wrap ((a : Int) * (b : Int)) = ((a * b : Nat) : Int) := hw
    simp [binOp, Op.intArith, h1, go_sem])) kk
theorem J.gquo (kk : J P n w0 R l0 K rest (upd f d (.int k ((a / b : Nat) : Int))) L) (hg : wantB n f l0 ⟨some d, .binOp .quo t x y u, ty, pos, aft, g⟩ = true := by exact rfl) (hx : Cx.ev n f x = .int k (a : Int) := by exact rfl) (hy : Cx.ev n f y = .int k (b : Int) := by exact rfl) (hb : 0 < b := by omega) (hw : k.wrap ((a / b : Nat) : Int) = ((a / b : Nat) : Int) := by first | exact wU64 (by omega) | exact wU32 (by omega)) : J P n w0 R l0 K ((κ, ⟨some d, .binOp .quo t x y u, ty, pos, aft, g⟩) :: rest) f L :=
  J.p hg (bin_run hx hy (fun w => by
    have h1 : k.wrap ((a : Int).tdiv (b : Int)) = ((a / b : Nat) : Int) := hw
    have h2 : ¬ ((b : Int) = 0) := by omega
    have h3 : ¬ (b = 0) := by omega
    simp [binOp, Op.intDiv, h2, h3, h1, go_sem]
    exact hw)) kk
theorem J.grem (kk : J P n w0 R l0 K rest (upd f d (.int k ((a % b : Nat) : Int))) L) (hg : wantB n f l0 ⟨some d, .binOp .rem t x y u, ty, pos, aft, g⟩ = true := by exact rfl) (hx : Cx.ev n f x = .int k (a : Int) := by exact rfl) (hy : Cx.ev n f y = .int k (b : Int) := by exact rfl) (hb : 0 < b := by omega) : J P n w0 R l0 K ((κ, ⟨some d, .binOp .rem t x y u, ty, pos, aft, g⟩) :: rest) f L :=
  J.p hg (bin_run hx hy (fun w => by
    have h1 : ((a : Int).tmod (b : Int)) = ((a % b : Nat) : Int) := rfl
    have h2 : ¬ ((b : Int) = 0) := by omega
    have h3 : ¬ (b = 0) := by omega
    simp [binOp, Op.intDiv, h2, h3, h1, go_sem])) kk
theorem J.gshl {yk : IntKind} {j : Nat} (kk : J P n w0 R l0 K rest (upd f d (.int k ((a * 2 ^ j : Nat) : Int))) L) (hg : wantB n f l0 ⟨some d, .binOp .shl t x y u, ty, pos, aft, g⟩ = true := by exact rfl) (hx : Cx.ev n f x = .int k (a : Int) := by exact rfl) (hy : Cx.ev n f y = .int yk (j : Int) := by exact rfl) (hj : j ≤ k.bits := by first | (show _ ≤ 64; omega) | (show _ ≤ 32; omega)) (hw : k.wrap ((a * 2 ^ j : Nat) : Int) = ((a * 2 ^ j : Nat) : Int) := by first | exact wU64 (by omega) | exact wU32 (by omega)) : J P n w0 R l0 K ((κ, ⟨some d, .binOp .shl t x y u, ty, pos, aft, g⟩) :: rest) f L :=
  J.p hg (bin_run hx hy (fun w => by
    have hn : ¬ ((j : Int) < 0) := by omega
    have hm : min ((j : Int)).toNat k.bits = j := by rw [Int.toNat_natCast]; exact Nat.min_eq_left hj
    have hcast : (a : Int) * ((2 : Int) ^ j) = ((a * 2 ^ j : Nat) : Int) := by rw [Int.natCast_mul, Int.natCast_pow]; rfl
    simp only [binOp, Op.shift, if_neg hn, hm, hcast, hw]
    rfl)) kk
theorem J.gshr {yk : IntKind} {j : Nat} (kk : J P n w0 R l0 K rest (upd f d (.int k ((a / 2 ^ j : Nat) : Int))) L) (hg : wantB n f l0 ⟨some d, .binOp .shr t x y u, ty, pos, aft, g⟩ = true := by exact rfl) (hx : Cx.ev n f x = .int k (a : Int) := by exact rfl) (hy : Cx.ev n f y = .int yk (j : Int) := by exact rfl) (hj : j ≤ k.bits := by first | (show _ ≤ 64; omega) | (show _ ≤ 32; omega)) : J P n w0 R l0 K ((κ, ⟨some d, .binOp .shr t x y u, ty, pos, aft, g⟩) :: rest) f L :=
  J.p hg (bin_run hx hy (fun w => by
    have hn : ¬ ((j : Int) < 0) := by omega
    have hm : min ((j : Int)).toNat k.bits = j := by rw [Int.toNat_natCast]; exact Nat.min_eq_left hj
    have hcast : ((2 : Int) ^ j) = ((2 ^ j : Nat) : Int) := by rw [Int.natCast_pow]; rfl
    have hd : ((a : Int)).fdiv ((2 : Int) ^ j) = ((a / 2 ^ j : Nat) : Int) := by
      rw [hcast, Int.fdiv_eq_ediv_of_nonneg _ (Int.natCast_nonneg _)]
      rfl
    simp only [binOp, Op.shift, if_neg hn, hm, hd]
    rfl)) kk
theorem J.gand (kk : J P n w0 R l0 K rest (upd f d (.int k ((a &&& b : Nat) : Int))) L) (hg : wantB n f l0 ⟨some d, .binOp .and t x y u, ty, pos, aft, g⟩ = true := by exact rfl) (hx : Cx.ev n f x = .int k (a : Int) := by exact rfl) (hy : Cx.ev n f y = .int k (b : Int) := by exact rfl) (ha : a < 2 ^ k.bits := by first | (show _ < 18446744073709551616; omega) | (show _ < 4294967296; omega)) (hb : b < 2 ^ k.bits := by first | (show _ < 18446744073709551616; omega) | (show _ < 4294967296; omega)) (hw : k.wrap ((a &&& b : Nat) : Int) = ((a &&& b : Nat) : Int) := by first | exact wU64 (Nat.and_lt_two_pow (n := 64) _ (by omega)) | exact wU32 (Nat.and_lt_two_pow (n := 32) _ (by omega))) : J P n w0 R l0 K ((κ, ⟨some d, .binOp .and t x y u, ty, pos, aft, g⟩) :: rest) f L :=
  J.p hg (bin_run hx hy (fun w => by
    have e : (BitVec.ofInt k.bits (a : Int) &&& BitVec.ofInt k.bits (b : Int)).toNat = a &&& b := by rw [BitVec.toNat_and, bv_g _ _ ha, bv_g _ _ hb]
    have : (Op.intBits .and k (a : Int) (b : Int)).run P w = .ok (.int k ((a &&& b : Nat) : Int)) w := by
      show (pure (Value.int k (k.wrap ((BitVec.ofInt k.bits (a : Int) &&& BitVec.ofInt k.bits (b : Int)).toNat : Int))) : Sem Value).run P w = _
      rw [e, hw]; rfl
    simpa [binOp] using this)) kk
theorem J.gor (kk : J P n w0 R l0 K rest (upd f d (.int k ((a ||| b : Nat) : Int))) L) (hg : wantB n f l0 ⟨some d, .binOp .or t x y u, ty, pos, aft, g⟩ = true := by exact rfl) (hx : Cx.ev n f x = .int k (a : Int) := by exact rfl) (hy : Cx.ev n f y = .int k (b : Int) := by exact rfl) (ha : a < 2 ^ k.bits := by first | (show _ < 18446744073709551616; omega) | (show _ < 4294967296; omega)) (hb : b < 2 ^ k.bits := by first | (show _ < 18446744073709551616; omega) | (show _ < 4294967296; omega)) (hw : k.wrap ((a ||| b : Nat) : Int) = ((a ||| b : Nat) : Int) := by first | exact wU64 (Nat.or_lt_two_pow (n := 64) (by omega) (by omega)) | exact wU32 (Nat.or_lt_two_pow (n := 32) (by omega) (by omega))) : J P n w0 R l0 K ((κ, ⟨some d, .binOp .or t x y u, ty, pos, aft, g⟩) :: rest) f L :=
  J.p hg (bin_run hx hy (fun w => by
    have e : (BitVec.ofInt k.bits (a : Int) ||| BitVec.ofInt k.bits (b : Int)).toNat = a ||| b := by rw [BitVec.toNat_or, bv_g _ _ ha, bv_g _ _ hb]
    have : (Op.intBits .or k (a : Int) (b : Int)).run P w = .ok (.int k ((a ||| b : Nat) : Int)) w := by
      show (pure (Value.int k (k.wrap ((BitVec.ofInt k.bits (a : Int) ||| BitVec.ofInt k.bits (b : Int)).toNat : Int))) : Sem Value).run P w = _
      rw [e, hw]; rfl
    simpa [binOp] using this)) kk
/-- a conversion: the number r that the other kind holds -/
theorem J.gcv {src dst : TypeId} {k1 k2 : IntKind} {ts : TI} {s2 b2 : Nat} {z2 : Option Value} {r : Nat} (hΓ : Fits P Γ) (kk : J P n w0 R l0 K rest (upd f d (.int k2 (r : Int))) L) (hg : wantB n f l0 ⟨some d, .convert src dst x, ty, pos, aft, g⟩ = true := by exact rfl) (hx : Cx.ev n f x = .int k1 (a : Int) := by exact rfl) (hs : Cx.look Γ src = some ts := by exact rfl) (hd : Cx.look Γ dst = some ⟨.int k2, s2, z2, b2⟩ := by exact rfl) (hk : k2.wrap (a : Int) = (r : Int) := by first | exact wU64 (by omega) | exact wI64 (by omega) | exact wT32 _ | exact wT8 _) : J P n w0 R l0 K ((κ, ⟨some d, .convert src dst x, ty, pos, aft, g⟩) :: rest) f L := by
  obtain ⟨dd, s3, z3, b3⟩ := ts
  refine J.ev (v := .int k2 (r : Int)) hΓ hg ?_ kk
  simp only [pureEv, hx, hs, hd]
  rw [hk]
end
theorem ones_law2 (x : Nat) (h : x < 18446744073709551616) : ∀ a b c d e f, a = ((x / 2 ^ 1) &&& 6148914691236517205) + (x &&& 6148914691236517205) → b = ((a / 2 ^ 2) &&& 3689348814741910323) + (a &&& 3689348814741910323) → c = (b / 2 ^ 4 + b) &&& 1085102592571150095 →
    d = c + c / 2 ^ 8 → e = d + d / 2 ^ 16 → f = e + e / 2 ^ 32 → a < 18446744073709551616 ∧ b < 18446744073709551616 ∧ b / 2 ^ 4 + b < 18446744073709551616 ∧ d < 18446744073709551616 ∧ e < 18446744073709551616 ∧ f < 9223372036854775808 ∧ f % 128 = pc 64 x := fun a b c d e f ha hb hc hd he hf => ones_law x h a b c d e f ha hb hc hd he hf
theorem eOnes : Entr Try.prog 124 := Entr.of Try.func124 rfl rfl
theorem ones_any (x : Nat) (h : x < 18446744073709551616) (w : World) : Calls Try.prog 124 #[.int .u64 (x : Int)] w fun e w' => e = .returned (.int .i64 (pc 64 x : Int)) ∧ Below w.heap.size w w' := by
  obtain ⟨h1, h2, h3, h4, h5, h6, h7⟩ := ones_law2 x h _ _ _ _ _ _ rfl rfl rfl rfl rfl rfl
  refine calls_of_JC (R := []) Try.func124 Try.ntmps124 rfl rfl (Holds.nil _) ?_
  repeat' first
    | (refine J.isJ ?_; first | (first | (refine J.o 1 ?_; first | refine J.gshr (j := 1) ?_ | refine J.gshr (j := 2) ?_ | refine J.gshr (j := 4) ?_ | refine J.gshr (j := 8) ?_ | refine J.gshr (j := 16) ?_ | refine J.gshr (j := 32) ?_ | refine J.gand (b := 6148914691236517205) ?_ | refine J.gand (b := 3689348814741910323) ?_ | refine J.gand (b := 1085102592571150095) ?_ | refine J.gadd ?_ | refine J.gand (b := 127) ?_ (hw := wI64 (Nat.lt_of_le_of_lt Nat.and_le_right (by omega)))) | (refine J.o 2 ?_; refine J.gcv hΓ ?_)) | (first | (refine J.o 0 ?_; refine J.ev' hΓ ?_) | refine J.nil ?_ | refine J.kd ?_ | (refine J.o 4 ?_; first | refine J.lT default hΓ ?_ | refine J.lR hΓ ?_) | (refine J.o 3 ?_; first | refine J.iA hΓ ?_ | refine J.iJ hΓ ?_ | refine J.fP hΓ ?_ | refine J.iC hΓ ?_ | refine J.ev' hΓ ?_) | (refine J.o 1 ?_; first | refine J.ad ?_ | refine J.sb ?_ | refine J.ng ?_ | refine J.mu ?_) | (refine J.o 5 ?_; first | refine J.t0 hΓ ?_ | refine J.t1 hΓ ?_ | refine J.t2 hΓ ?_ | refine J.tT _ default hΓ (fun _ _ => ?_) | refine J.tT1 _ default hΓ (fun _ _ => ?_) | refine J.tT2 _ default hΓ (fun _ _ => ?_)) | (refine J.o 6 ?_; refine J.bx (fun _ => ?_)) | (refine J.o 7 ?_; refine J.al hΓ (fun _ => ?_)) | (refine J.o 8 ?_; refine J.bd hΓ ?_) | (refine J.o 9 ?_; refine J.bl hΓ (fun _ => ?_)) | (refine J.o 10 ?_; refine J.ev' hΓ ?_) | (refine J.o 11 ?_; refine J.ev' hΓ ?_) | (refine J.o 14 ?_; refine J.mf hΓ ?_) | refine J.kn ?_) | ((fail_if_success refine J.wt ?_); refine J.gc rfl rfl (fun hc => ?_) (fun hc => ?_) <;> ((try simp only [decide_eq_true_eq, decide_eq_false_iff_not, beq_iff_eq, beq_eq_false_iff_ne, bne_iff_ne, bne_eq_false_iff_eq, Bool.not_eq_true', Bool.not_eq_false', Bool.not_eq_true, Bool.not_eq_false] at hc) <;> first | (first | (exact absurd rfl hc) | (exfalso; omega) | (exact absurd (hc.symm.trans (by assumption : _ = false)) (by decide)) | (exact absurd (hc.symm.trans (by assumption : _ = true)) (by decide))) | skip)))
    | (first | refine JC.seq ?_ | refine JC.region ?_ | refine JC.block ?_ | refine JC.ret ?_ | refine JC.exit ?_ | refine JC.skip ?_ | refine thenK.nn ?_ | refine thenK.r ?_ | refine thenK.x ?_ | refine blockK.nn ?_ | refine blockK.r ?_ | refine blockK.hit rfl ?_ | refine blockK.miss rfl ?_ | refine JC.condT rfl ?_ | refine JC.condF rfl ?_ | (refine JC.cond rfl (fun hc => ?_) (fun hc => ?_) <;> ((try simp only [decide_eq_true_eq, decide_eq_false_iff_not, beq_iff_eq, beq_eq_false_iff_ne, bne_iff_ne, bne_eq_false_iff_eq, Bool.not_eq_true', Bool.not_eq_false', Bool.not_eq_true, Bool.not_eq_false] at hc) <;> first | (first | (exact absurd rfl hc) | (exfalso; omega) | (exact absurd (hc.symm.trans (by assumption : _ = false)) (by decide)) | (exact absurd (hc.symm.trans (by assumption : _ = true)) (by decide))) | skip)) | (refine JC.drawA [] (by kernel_rfl) (by kernel_rfl) ?_) | refine drawK.nn ?_ | refine roundK.nn ?_ | refine roundK.r ?_ | refine roundK.x ?_ | refine loopK.r ?_ | refine loopK.x ?_)
    | (fail)
    | fail
  all_goals (refine ret1f rfl rfl rfl (fun w1 hw => ⟨?_, hw.below⟩))
  refine congrArg (fun z : Nat => Ending.returned (Value.int .i64 (z : Int))) ?_
  rw [← h7]
  exact Nat.and_two_pow_sub_one_eq_mod _ 7
end Go.Proofs.Ythnhijdfcmcnhaa
