/- The reader of chapter 42: eat, number. -/
import Derived.Test.YtdiciemlbhkilaaDoorF
import Derived.Test.YtdiciemlbhkilaaDoorShelf
import Derived.Lib.AtoiErrMem
namespace Go.Proofs.YtdiciemlbhkilaaDoor
open Go Go.Cx Go.RowKit
set_option linter.unusedVariables false
set_option linter.unusedSimpArgs false
set_option maxHeartbeats 4000000
attribute [local irreducible] J JC thenK blockK loopK roundK drawK retK QW Qt pel List.set Calls

theorem itoa_small (i : Nat) (hi : i < 100) (w : World) : Calls Tryd.prog 36 #[.int .i64 (i : Int)] w fun e w' => e = .returned (.string (S (Lib.decDigits i))) ∧ Below w.heap.size w w' :=
  (Tryd.strconv_Itoa_small i hi w).mono fun _ _ ⟨h1, h2⟩ => ⟨h1, h2 ▸ Below.refl _ _⟩
theorem atoi_any (l : List UInt8) (n : Int) (hl : l.length ≤ 18) (h : Lib.atoi l = some n) (w : World) : Calls Tryd.prog 51 #[.string (S l)] w fun e w' => e = .returned (.tuple #[.int .i64 n, .nilIface]) ∧ Below w.heap.size w w' :=
  (Tryd.strconv_Atoi (S l) n hl h w).mono fun _ _ ⟨h1, _, h2⟩ => ⟨h1, h2 ▸ Lib.bytesWorld_below w 5 _⟩
theorem eItoa : Entr Tryd.prog 36 := Entr.of Tryd.func36 rfl rfl
theorem eAtoi : Entr Tryd.prog 51 := Entr.of Tryd.func51 rfl rfl

/-- the reader's variable -/
def rdr (b : Nat) (sl : Value) (l : List UInt8) : Heap := [(b, .cells ⟨[sl, .string (S l)]⟩ 73 (0, 0))]
def eatB (l : List UInt8) (c : UInt8) : Bool := match l with | [] => false | x :: _ => x == c
def eatL (l : List UInt8) (c : UInt8) : List UInt8 := if eatB l c then l.tail else l

theorem eat_any {w0 w : World} {R : Heap} {L : List Heap} {b : Nat} {a : Option Addr} {len cap : Nat} (l : List UInt8) (c : UInt8) (hl : l.length ≤ 1048576) (hw : H w0 R (rdr b (.slice a len cap) l :: L) w) :
    Calls Tryd.prog 43 #[.pointer (some ⟨b, 0, none⟩), .int .u8 (c.toNat : Int)] w fun e w' => ∃ v L', e = .returned v ∧ H w0 R L' w' ∧ (v = .bool (eatB l c) ∧ L' = rdr b (.slice a len cap) (eatL l c) :: L) := by
  unfold eatL eatB
  cases l with
  | nil =>
    simp only
    refine calls_in Tryd.func43 Tryd.ntmps43 rfl rfl (hw) ?_
    unfold rdr
    repeat' first
      | (refine J.isJ ?_; (first | (first | (refine J.o 0 ?_; refine J.ev' hΓ ?_) | refine J.nil ?_ | refine J.kd ?_ | (refine J.o 4 ?_; first | refine J.e0 hΓ ?_ | refine J.lT default hΓ ?_ | refine J.e1 hΓ ?_ | refine J.e2 hΓ ?_ | refine J.lR hΓ ?_) | (refine J.o 3 ?_; first | refine J.iA hΓ ?_ | refine J.iJ hΓ ?_ | refine J.fP hΓ ?_ | refine J.iC hΓ ?_ | refine J.ev' hΓ ?_) | (refine J.o 1 ?_; first | refine J.ad ?_ | refine J.ct ?_ | refine J.sb ?_ | refine J.mu ?_ | refine J.ng ?_ | refine J.qu ?_ | refine J.rm ?_ | refine J.s1 ?_ | refine J.sr ?_ | refine J.aW ?_ | refine J.oW ?_ | refine J.nW ?_) | (refine J.o 2 ?_; refine J.cv _ hΓ ?_) | (refine J.o 5 ?_; first | refine J.t0 hΓ ?_ | refine J.t1 hΓ ?_ | refine J.t2 hΓ ?_ | refine J.tT _ default hΓ (fun _ _ => ?_) | refine J.tT1 _ default hΓ (fun _ _ => ?_) | refine J.tT2 _ default hΓ (fun _ _ => ?_) | refine J.tT3 _ default hΓ (fun _ _ => ?_)) | (refine J.o 6 ?_; refine J.bx (fun _ => ?_)) | (refine J.o 7 ?_; refine J.al hΓ (fun _ => ?_)) | (refine J.o 8 ?_; refine J.bd hΓ ?_) | (refine J.o 9 ?_; refine J.bl hΓ (fun _ => ?_)) | (refine J.o 10 ?_; first | refine J.ls hΓ ?_ | refine J.ev' hΓ ?_) | (refine J.o 11 ?_; first | refine J.eS ?_ | refine J.xS ?_ | refine J.ev' hΓ ?_ | refine J.nT hΓ ?_) | (refine J.o 12 ?_; refine J.ix hΓ ?_) | (refine J.o 13 ?_; first | refine J.sL hΓ ?_ | refine J.sH hΓ ?_) | (refine J.o 14 ?_; refine J.mf hΓ ?_) | refine J.kn ?_) | ((fail_if_success refine J.wt ?_); refine J.gc rfl rfl (fun hc => ?_) (fun hc => ?_) <;> ((try simp only [decide_eq_true_eq, decide_eq_false_iff_not, beq_iff_eq, beq_eq_false_iff_ne, bne_iff_ne, bne_eq_false_iff_eq, Bool.not_eq_true', Bool.not_eq_false', Bool.not_eq_true, Bool.not_eq_false] at hc) <;> first | (first | (exact absurd rfl hc) | (exfalso; omega) | (exact absurd (hc.symm.trans (by assumption : _ = false)) (by decide)) | (exact absurd (hc.symm.trans (by assumption : _ = true)) (by decide))) | skip))))
      | (first | refine JC.seq ?_ | refine JC.region ?_ | refine JC.block ?_ | refine JC.ret ?_ | refine JC.exit ?_ | refine JC.skip ?_ | refine thenK.nn ?_ | refine thenK.r ?_ | refine thenK.x ?_ | refine blockK.nn ?_ | refine blockK.r ?_ | refine blockK.hit rfl ?_ | refine blockK.miss rfl ?_ | refine JC.condT rfl ?_ | refine JC.condF rfl ?_ | (refine JC.cond rfl (fun hc => ?_) (fun hc => ?_) <;> ((try simp only [decide_eq_true_eq, decide_eq_false_iff_not, beq_iff_eq, beq_eq_false_iff_ne, bne_iff_ne, bne_eq_false_iff_eq, Bool.not_eq_true', Bool.not_eq_false', Bool.not_eq_true, Bool.not_eq_false] at hc) <;> first | (first | (exact absurd rfl hc) | (exfalso; omega) | (exact absurd (hc.symm.trans (by assumption : _ = false)) (by decide)) | (exact absurd (hc.symm.trans (by assumption : _ = true)) (by decide))) | skip)) | (refine JC.drawA [] (by kernel_rfl) (by kernel_rfl) ?_) | refine drawK.nn ?_ | refine roundK.nn ?_ | refine roundK.r ?_ | refine roundK.x ?_ | refine loopK.r ?_ | refine loopK.x ?_)
      | fail
    all_goals first | (exfalso; simp_all; done) | exact ret1f rfl rfl rfl (fun w1 hw => ⟨_, _, rfl, hw, rfl, rfl⟩)
  | cons x l =>
    have hgd : (x :: l).getD 0 0 = x := rfl
    have hll : ((x :: l).length : Int) = l.length + 1 := by simp
    by_cases hx : x = c
    · subst hx
      simp only [beq_self_eq_true, if_true, List.tail_cons]
      refine calls_in Tryd.func43 Tryd.ntmps43 rfl rfl (hw) ?_
      unfold rdr
      repeat' first
        | (refine J.isJ ?_; (first | (first | (refine J.o 0 ?_; refine J.ev' hΓ ?_) | refine J.nil ?_ | refine J.kd ?_ | (refine J.o 4 ?_; first | refine J.e0 hΓ ?_ | refine J.lT default hΓ ?_ | refine J.e1 hΓ ?_ | refine J.e2 hΓ ?_ | refine J.lR hΓ ?_) | (refine J.o 3 ?_; first | refine J.iA hΓ ?_ | refine J.iJ hΓ ?_ | refine J.fP hΓ ?_ | refine J.iC hΓ ?_ | refine J.ev' hΓ ?_) | (refine J.o 1 ?_; first | refine J.ad ?_ | refine J.ct ?_ | refine J.sb ?_ | refine J.mu ?_ | refine J.ng ?_ | refine J.qu ?_ | refine J.rm ?_ | refine J.s1 ?_ | refine J.sr ?_ | refine J.aW ?_ | refine J.oW ?_ | refine J.nW ?_) | (refine J.o 2 ?_; refine J.cv _ hΓ ?_) | (refine J.o 5 ?_; first | refine J.t0 hΓ ?_ | refine J.t1 hΓ ?_ | refine J.t2 hΓ ?_ | refine J.tT _ default hΓ (fun _ _ => ?_) | refine J.tT1 _ default hΓ (fun _ _ => ?_) | refine J.tT2 _ default hΓ (fun _ _ => ?_) | refine J.tT3 _ default hΓ (fun _ _ => ?_)) | (refine J.o 6 ?_; refine J.bx (fun _ => ?_)) | (refine J.o 7 ?_; refine J.al hΓ (fun _ => ?_)) | (refine J.o 8 ?_; refine J.bd hΓ ?_) | (refine J.o 9 ?_; refine J.bl hΓ (fun _ => ?_)) | (refine J.o 10 ?_; first | refine J.ls hΓ ?_ | refine J.ev' hΓ ?_) | (refine J.o 11 ?_; first | refine J.eS ?_ | refine J.xS ?_ | refine J.ev' hΓ ?_ | refine J.nT hΓ ?_) | (refine J.o 12 ?_; refine J.ix hΓ ?_) | (refine J.o 13 ?_; first | refine J.sL hΓ ?_ | refine J.sH hΓ ?_) | (refine J.o 14 ?_; refine J.mf hΓ ?_) | refine J.kn ?_) | ((fail_if_success refine J.wt ?_); refine J.gc rfl rfl (fun hc => ?_) (fun hc => ?_) <;> ((try simp only [decide_eq_true_eq, decide_eq_false_iff_not, beq_iff_eq, beq_eq_false_iff_ne, bne_iff_ne, bne_eq_false_iff_eq, Bool.not_eq_true', Bool.not_eq_false', Bool.not_eq_true, Bool.not_eq_false] at hc) <;> first | (first | (exact absurd rfl hc) | (exfalso; omega) | (exact absurd (hc.symm.trans (by assumption : _ = false)) (by decide)) | (exact absurd (hc.symm.trans (by assumption : _ = true)) (by decide))) | skip))))
        | (first | refine JC.seq ?_ | refine JC.region ?_ | refine JC.block ?_ | refine JC.ret ?_ | refine JC.exit ?_ | refine JC.skip ?_ | refine thenK.nn ?_ | refine thenK.r ?_ | refine thenK.x ?_ | refine blockK.nn ?_ | refine blockK.r ?_ | refine blockK.hit rfl ?_ | refine blockK.miss rfl ?_ | refine JC.condT rfl ?_ | refine JC.condF rfl ?_ | (refine JC.cond rfl (fun hc => ?_) (fun hc => ?_) <;> ((try simp only [decide_eq_true_eq, decide_eq_false_iff_not, beq_iff_eq, beq_eq_false_iff_ne, bne_iff_ne, bne_eq_false_iff_eq, Bool.not_eq_true', Bool.not_eq_false', Bool.not_eq_true, Bool.not_eq_false] at hc) <;> first | (first | (exact absurd rfl hc) | (exfalso; omega) | (exact absurd (hc.symm.trans (by assumption : _ = false)) (by decide)) | (exact absurd (hc.symm.trans (by assumption : _ = true)) (by decide))) | skip)) | (refine JC.drawA [] (by kernel_rfl) (by kernel_rfl) ?_) | refine drawK.nn ?_ | refine roundK.nn ?_ | refine roundK.r ?_ | refine roundK.x ?_ | refine loopK.r ?_ | refine loopK.x ?_)
        | fail
      all_goals first | exact ret1f rfl rfl rfl (fun w1 hw => ⟨_, _, rfl, hw, rfl, rfl⟩) | (exfalso; simp_all; done) | (exfalso; simp_all; omega)
    · have hb : (x == c) = false := by simpa using hx
      have hn : x.toNat ≠ c.toNat := fun h => hx (UInt8.toNat_inj.1 h)
      simp only [hb]
      refine calls_in Tryd.func43 Tryd.ntmps43 rfl rfl (hw) ?_
      unfold rdr
      repeat' first
        | (refine J.isJ ?_; (first | (first | (refine J.o 0 ?_; refine J.ev' hΓ ?_) | refine J.nil ?_ | refine J.kd ?_ | (refine J.o 4 ?_; first | refine J.e0 hΓ ?_ | refine J.lT default hΓ ?_ | refine J.e1 hΓ ?_ | refine J.e2 hΓ ?_ | refine J.lR hΓ ?_) | (refine J.o 3 ?_; first | refine J.iA hΓ ?_ | refine J.iJ hΓ ?_ | refine J.fP hΓ ?_ | refine J.iC hΓ ?_ | refine J.ev' hΓ ?_) | (refine J.o 1 ?_; first | refine J.ad ?_ | refine J.ct ?_ | refine J.sb ?_ | refine J.mu ?_ | refine J.ng ?_ | refine J.qu ?_ | refine J.rm ?_ | refine J.s1 ?_ | refine J.sr ?_ | refine J.aW ?_ | refine J.oW ?_ | refine J.nW ?_) | (refine J.o 2 ?_; refine J.cv _ hΓ ?_) | (refine J.o 5 ?_; first | refine J.t0 hΓ ?_ | refine J.t1 hΓ ?_ | refine J.t2 hΓ ?_ | refine J.tT _ default hΓ (fun _ _ => ?_) | refine J.tT1 _ default hΓ (fun _ _ => ?_) | refine J.tT2 _ default hΓ (fun _ _ => ?_) | refine J.tT3 _ default hΓ (fun _ _ => ?_)) | (refine J.o 6 ?_; refine J.bx (fun _ => ?_)) | (refine J.o 7 ?_; refine J.al hΓ (fun _ => ?_)) | (refine J.o 8 ?_; refine J.bd hΓ ?_) | (refine J.o 9 ?_; refine J.bl hΓ (fun _ => ?_)) | (refine J.o 10 ?_; first | refine J.ls hΓ ?_ | refine J.ev' hΓ ?_) | (refine J.o 11 ?_; first | refine J.eS ?_ | refine J.xS ?_ | refine J.ev' hΓ ?_ | refine J.nT hΓ ?_) | (refine J.o 12 ?_; refine J.ix hΓ ?_) | (refine J.o 13 ?_; first | refine J.sL hΓ ?_ | refine J.sH hΓ ?_) | (refine J.o 14 ?_; refine J.mf hΓ ?_) | refine J.kn ?_) | ((fail_if_success refine J.wt ?_); refine J.gc rfl rfl (fun hc => ?_) (fun hc => ?_) <;> ((try simp only [decide_eq_true_eq, decide_eq_false_iff_not, beq_iff_eq, beq_eq_false_iff_ne, bne_iff_ne, bne_eq_false_iff_eq, Bool.not_eq_true', Bool.not_eq_false', Bool.not_eq_true, Bool.not_eq_false] at hc) <;> first | (first | (exact absurd rfl hc) | (exfalso; omega) | (exact absurd (hc.symm.trans (by assumption : _ = false)) (by decide)) | (exact absurd (hc.symm.trans (by assumption : _ = true)) (by decide))) | skip))))
        | (first | refine JC.seq ?_ | refine JC.region ?_ | refine JC.block ?_ | refine JC.ret ?_ | refine JC.exit ?_ | refine JC.skip ?_ | refine thenK.nn ?_ | refine thenK.r ?_ | refine thenK.x ?_ | refine blockK.nn ?_ | refine blockK.r ?_ | refine blockK.hit rfl ?_ | refine blockK.miss rfl ?_ | refine JC.condT rfl ?_ | refine JC.condF rfl ?_ | (refine JC.cond rfl (fun hc => ?_) (fun hc => ?_) <;> ((try simp only [decide_eq_true_eq, decide_eq_false_iff_not, beq_iff_eq, beq_eq_false_iff_ne, bne_iff_ne, bne_eq_false_iff_eq, Bool.not_eq_true', Bool.not_eq_false', Bool.not_eq_true, Bool.not_eq_false] at hc) <;> first | (first | (exact absurd rfl hc) | (exfalso; omega) | (exact absurd (hc.symm.trans (by assumption : _ = false)) (by decide)) | (exact absurd (hc.symm.trans (by assumption : _ = true)) (by decide))) | skip)) | (refine JC.drawA [] (by kernel_rfl) (by kernel_rfl) ?_) | refine drawK.nn ?_ | refine roundK.nn ?_ | refine roundK.r ?_ | refine roundK.x ?_ | refine loopK.r ?_ | refine loopK.x ?_)
        | fail
      all_goals first | exact ret1f rfl rfl rfl (fun w1 hw => ⟨_, _, rfl, hw, rfl, rfl⟩) | (exfalso; simp_all; done) | (exfalso; simp_all; omega)

def dig (x : UInt8) : Bool := decide (48 ≤ x.toNat ∧ x.toNat ≤ 57)
/-- how many digits a row opens with, at most f -/
def cntD : Nat → List UInt8 → Nat
  | 0, _ => 0
  | _, [] => 0
  | f + 1, x :: l => if dig x then cntD f l + 1 else 0
/-- the number that a row opens with: its value and the rest -/
def numS (l : List UInt8) : Option (Int × List UInt8) :=
  let i := cntD 6 l
  if i = 0 ∨ 5 < i ∨ (1 < i ∧ (l.getD 0 0).toNat = 48) then none else some ((Lib.atoi (l.take i)).getD 0, l.drop i)
theorem cntD_le : ∀ (f : Nat) (l : List UInt8), cntD f l ≤ f ∧ cntD f l ≤ l.length
  | 0, l => by cases l <;> simp [cntD]
  | f + 1, [] => by simp [cntD]
  | f + 1, x :: l => by
    have := cntD_le f l
    rw [cntD]
    split
    · simp only [List.length_cons]; omega
    · simp
theorem decFrom_dig : ∀ (l : List UInt8) (acc : Nat), (∀ x, x ∈ l → dig x = true) → ∃ n, Lib.decFrom acc l = some n ∧ n + 1 ≤ (acc + 1) * 10 ^ l.length
  | [], acc, _ => ⟨acc, rfl, by simp⟩
  | x :: l, acc, h => by
    have hx := h x (List.mem_cons_self ..)
    unfold dig at hx
    have hx' := of_decide_eq_true hx
    obtain ⟨n, hn, hb⟩ := decFrom_dig l (acc * 10 + (x.toNat - 48)) (fun y hy => h y (List.mem_cons_of_mem _ hy))
    refine ⟨n, ?_, ?_⟩
    · unfold Lib.decFrom Lib.digitVal
      rw [if_pos hx']
      exact hn
    · rw [List.length_cons, Nat.pow_succ]
      have h1 : acc * 10 + (x.toNat - 48) + 1 ≤ (acc + 1) * 10 := by omega
      have h2 : (acc * 10 + (x.toNat - 48) + 1) * 10 ^ l.length ≤ (acc + 1) * 10 * 10 ^ l.length := Nat.mul_le_mul_right _ h1
      rw [Nat.mul_assoc, Nat.mul_comm 10] at h2
      omega
theorem cntD_dig : ∀ (f : Nat) (l : List UInt8) (x : UInt8), x ∈ l.take (cntD f l) → dig x = true
  | 0, l, x, h => by cases l <;> simp [cntD] at h
  | f + 1, [], x, h => by simp at h
  | f + 1, y :: l, x, h => by
    rw [cntD] at h
    split at h
    case isTrue hd =>
      rw [List.take_succ_cons] at h
      rcases List.mem_cons.1 h with rfl | h
      · exact hd
      · exact cntD_dig f l x h
    case isFalse => simp at h
theorem atoi_dig (l : List UInt8) (h0 : l ≠ []) (h : ∀ x, x ∈ l → dig x = true) : ∃ n : Nat, Lib.atoi l = some (n : Int) ∧ n + 1 ≤ 10 ^ l.length := by
  cases l with
  | nil => exact absurd rfl h0
  | cons x l =>
    obtain ⟨n, hn, hb⟩ := decFrom_dig (x :: l) 0 h
    have hx := of_decide_eq_true (h x (List.mem_cons_self ..))
    refine ⟨n, ?_, by simpa using hb⟩
    have h1 : (x == 45) = false := by
      cases hc : x == 45 with
      | false => rfl
      | true => rw [beq_iff_eq.1 hc] at hx; exact absurd hx (by decide)
    have h2 : (x == 43) = false := by
      cases hc : x == 43 with
      | false => rfl
      | true => rw [beq_iff_eq.1 hc] at hx; exact absurd hx (by decide)
    unfold Lib.atoi
    simp only [h1, h2, Bool.false_eq_true, if_false]
    unfold Lib.decNat
    rw [List.isEmpty_cons, if_neg (by decide), hn]
    rfl

theorem number_any {w0 w : World} {R : Heap} {L : List Heap} {b : Nat} {a : Option Addr} {len cap : Nat} (l : List UInt8) (hl : l.length ≤ 1048576) (hw : H w0 R (rdr b (.slice a len cap) l :: L) w) :
    Calls Tryd.prog 44 #[.pointer (some ⟨b, 0, none⟩)] w fun e w' => ∃ v L', e = .returned v ∧ H w0 R L' w' ∧
      (v = (match numS l with | none => .tuple #[.int .i64 0, .bool false] | some p => .tuple #[.int .i64 p.1, .bool true]) ∧ L' = rdr b (.slice a len cap) (match numS l with | none => l | some p => p.2) :: L) := by
  have hcl := cntD_le 6 l
  have hcl6 := hcl.1
  refine calls_in Tryd.func44 Tryd.ntmps44 rfl rfl (hw) ?_
  unfold rdr
  repeat' first
    | (refine J.isJ ?_; (first | (first | (refine J.o 0 ?_; refine J.ev' hΓ ?_) | refine J.nil ?_ | refine J.kd ?_ | (refine J.o 4 ?_; first | refine J.e0 hΓ ?_ | refine J.lT default hΓ ?_ | refine J.e1 hΓ ?_ | refine J.e2 hΓ ?_ | refine J.lR hΓ ?_) | (refine J.o 3 ?_; first | refine J.iA hΓ ?_ | refine J.iJ hΓ ?_ | refine J.fP hΓ ?_ | refine J.iC hΓ ?_ | refine J.ev' hΓ ?_) | (refine J.o 1 ?_; first | refine J.ad ?_ | refine J.ct ?_ | refine J.sb ?_ | refine J.mu ?_ | refine J.ng ?_ | refine J.qu ?_ | refine J.rm ?_ | refine J.s1 ?_ | refine J.sr ?_ | refine J.aW ?_ | refine J.oW ?_ | refine J.nW ?_) | (refine J.o 2 ?_; refine J.cv _ hΓ ?_) | (refine J.o 5 ?_; first | refine J.t0 hΓ ?_ | refine J.t1 hΓ ?_ | refine J.t2 hΓ ?_ | refine J.tT _ default hΓ (fun _ _ => ?_) | refine J.tT1 _ default hΓ (fun _ _ => ?_) | refine J.tT2 _ default hΓ (fun _ _ => ?_) | refine J.tT3 _ default hΓ (fun _ _ => ?_)) | (refine J.o 6 ?_; refine J.bx (fun _ => ?_)) | (refine J.o 7 ?_; refine J.al hΓ (fun _ => ?_)) | (refine J.o 8 ?_; refine J.bd hΓ ?_) | (refine J.o 9 ?_; refine J.bl hΓ (fun _ => ?_)) | (refine J.o 10 ?_; first | refine J.ls hΓ ?_ | refine J.ev' hΓ ?_) | (refine J.o 11 ?_; first | refine J.eS ?_ | refine J.xS ?_ | refine J.ev' hΓ ?_ | refine J.nT hΓ ?_) | (refine J.o 12 ?_; refine J.ix hΓ ?_) | (refine J.o 13 ?_; first | refine J.sL hΓ ?_ | refine J.sH hΓ ?_) | (refine J.o 14 ?_; refine J.mf hΓ ?_) | refine J.kn ?_) | ((fail_if_success refine J.wt ?_); refine J.gc rfl rfl (fun hc => ?_) (fun hc => ?_) <;> ((try simp only [decide_eq_true_eq, decide_eq_false_iff_not, beq_iff_eq, beq_eq_false_iff_ne, bne_iff_ne, bne_eq_false_iff_eq, Bool.not_eq_true', Bool.not_eq_false', Bool.not_eq_true, Bool.not_eq_false] at hc) <;> first | (first | (exact absurd rfl hc) | (exfalso; omega) | (exact absurd (hc.symm.trans (by assumption : _ = false)) (by decide)) | (exact absurd (hc.symm.trans (by assumption : _ = true)) (by decide))) | skip))))
    | (first | refine JC.seq ?_ | refine JC.region ?_ | refine JC.block ?_ | refine JC.ret ?_ | refine JC.exit ?_ | refine JC.skip ?_ | refine thenK.nn ?_ | refine thenK.r ?_ | refine thenK.x ?_ | refine blockK.nn ?_ | refine blockK.r ?_ | refine blockK.hit rfl ?_ | refine blockK.miss rfl ?_ | refine JC.condT rfl ?_ | refine JC.condF rfl ?_ | (refine JC.cond rfl (fun hc => ?_) (fun hc => ?_) <;> ((try simp only [decide_eq_true_eq, decide_eq_false_iff_not, beq_iff_eq, beq_eq_false_iff_ne, bne_iff_ne, bne_eq_false_iff_eq, Bool.not_eq_true', Bool.not_eq_false', Bool.not_eq_true, Bool.not_eq_false] at hc) <;> first | (first | (exact absurd rfl hc) | (exfalso; omega) | (exact absurd (hc.symm.trans (by assumption : _ = false)) (by decide)) | (exact absurd (hc.symm.trans (by assumption : _ = true)) (by decide))) | skip)) | (refine JC.drawA [] (by kernel_rfl) (by kernel_rfl) ?_) | refine drawK.nn ?_ | refine roundK.nn ?_ | refine roundK.r ?_ | refine roundK.x ?_ | refine loopK.r ?_ | refine loopK.x ?_)
    | fail
  refine JC.loop (fun i => i == 4 || Nat.ble 7 i) (fun m g L' => ∃ (k : Nat), g 4 = .int .i64 (k : Int) ∧ k + m = 6 ∧ k ≤ l.length ∧ L' = _ ∧ k + cntD m (l.drop k) = cntD 6 l) 6 ⟨0, rfl, by omega, by omega, rfl, by simp⟩ ?_
  rintro m g L' ⟨k, e4, hkm, hkl, rfl, hcnt⟩
  refine JC.pin 4 e4 ?_
  clear e4
  by_cases hgo : k < l.length ∧ 0 < m ∧ dig (l.getD k 0) = true
  · obtain ⟨hk, hm, hd⟩ := hgo
    have hd' := of_decide_eq_true hd
    obtain ⟨m, rfl⟩ : ∃ m', m = m' + 1 := ⟨m - 1, by omega⟩
    have hdr : l.drop k = l.getD k 0 :: l.drop (k + 1) := drop_one l k hk
    rw [hdr, cntD, if_pos hd] at hcnt
    repeat' first
      | (refine J.isJ ?_; (first | (first | (refine J.o 0 ?_; refine J.ev' hΓ ?_) | refine J.nil ?_ | refine J.kd ?_ | (refine J.o 4 ?_; first | refine J.e0 hΓ ?_ | refine J.lT default hΓ ?_ | refine J.e1 hΓ ?_ | refine J.e2 hΓ ?_ | refine J.lR hΓ ?_) | (refine J.o 3 ?_; first | refine J.iA hΓ ?_ | refine J.iJ hΓ ?_ | refine J.fP hΓ ?_ | refine J.iC hΓ ?_ | refine J.ev' hΓ ?_) | (refine J.o 1 ?_; first | refine J.ad ?_ | refine J.ct ?_ | refine J.sb ?_ | refine J.mu ?_ | refine J.ng ?_ | refine J.qu ?_ | refine J.rm ?_ | refine J.s1 ?_ | refine J.sr ?_ | refine J.aW ?_ | refine J.oW ?_ | refine J.nW ?_) | (refine J.o 2 ?_; refine J.cv _ hΓ ?_) | (refine J.o 5 ?_; first | refine J.t0 hΓ ?_ | refine J.t1 hΓ ?_ | refine J.t2 hΓ ?_ | refine J.tT _ default hΓ (fun _ _ => ?_) | refine J.tT1 _ default hΓ (fun _ _ => ?_) | refine J.tT2 _ default hΓ (fun _ _ => ?_) | refine J.tT3 _ default hΓ (fun _ _ => ?_)) | (refine J.o 6 ?_; refine J.bx (fun _ => ?_)) | (refine J.o 7 ?_; refine J.al hΓ (fun _ => ?_)) | (refine J.o 8 ?_; refine J.bd hΓ ?_) | (refine J.o 9 ?_; refine J.bl hΓ (fun _ => ?_)) | (refine J.o 10 ?_; first | refine J.ls hΓ ?_ | refine J.ev' hΓ ?_) | (refine J.o 11 ?_; first | refine J.eS ?_ | refine J.xS ?_ | refine J.ev' hΓ ?_ | refine J.nT hΓ ?_) | (refine J.o 12 ?_; refine J.ix hΓ ?_) | (refine J.o 13 ?_; first | refine J.sL hΓ ?_ | refine J.sH hΓ ?_) | (refine J.o 14 ?_; refine J.mf hΓ ?_) | refine J.kn ?_) | ((fail_if_success refine J.wt ?_); refine J.gc rfl rfl (fun hc => ?_) (fun hc => ?_) <;> ((try simp only [decide_eq_true_eq, decide_eq_false_iff_not, beq_iff_eq, beq_eq_false_iff_ne, bne_iff_ne, bne_eq_false_iff_eq, Bool.not_eq_true', Bool.not_eq_false', Bool.not_eq_true, Bool.not_eq_false] at hc) <;> first | (first | (exact absurd rfl hc) | (exfalso; omega) | (exact absurd (hc.symm.trans (by assumption : _ = false)) (by decide)) | (exact absurd (hc.symm.trans (by assumption : _ = true)) (by decide))) | skip))))
      | (first | refine JC.seq ?_ | refine JC.region ?_ | refine JC.block ?_ | refine JC.ret ?_ | refine JC.exit ?_ | refine JC.skip ?_ | refine thenK.nn ?_ | refine thenK.r ?_ | refine thenK.x ?_ | refine blockK.nn ?_ | refine blockK.r ?_ | refine blockK.hit rfl ?_ | refine blockK.miss rfl ?_ | refine JC.condT rfl ?_ | refine JC.condF rfl ?_ | (refine JC.cond rfl (fun hc => ?_) (fun hc => ?_) <;> ((try simp only [decide_eq_true_eq, decide_eq_false_iff_not, beq_iff_eq, beq_eq_false_iff_ne, bne_iff_ne, bne_eq_false_iff_eq, Bool.not_eq_true', Bool.not_eq_false', Bool.not_eq_true, Bool.not_eq_false] at hc) <;> first | (first | (exact absurd rfl hc) | (exfalso; omega) | (exact absurd (hc.symm.trans (by assumption : _ = false)) (by decide)) | (exact absurd (hc.symm.trans (by assumption : _ = true)) (by decide))) | skip)) | (refine JC.drawA [] (by kernel_rfl) (by kernel_rfl) ?_) | refine drawK.nn ?_ | refine roundK.nn ?_ | refine roundK.r ?_ | refine roundK.x ?_ | refine loopK.r ?_ | refine loopK.x ?_)
      | fail
    all_goals first | (exfalso; omega) | skip
    all_goals refine loopK.nn m (by omega) (by repeat (first | refine Ag.upd rfl ?_ | exact Ag.hv)) ⟨k + 1, ?_, by omega, by omega, rfl, by omega⟩
    all_goals (show Value.int .i64 _ = _; congr 1)
  · have hst : ¬ (k < l.length ∧ 0 < m ∧ 48 ≤ (l.getD k 0).toNat ∧ (l.getD k 0).toNat ≤ 57) := fun h => hgo ⟨h.1, h.2.1, decide_eq_true h.2.2⟩
    have hk : cntD 6 l = k := by
      have h0 : cntD m (l.drop k) = 0 := by
        cases m with
        | zero => cases l.drop k <;> rfl
        | succ m =>
          by_cases hk : k < l.length
          · have hdr : l.drop k = l.getD k 0 :: l.drop (k + 1) := drop_one l k hk
            rw [hdr, cntD, if_neg (fun h => hgo ⟨hk, by omega, h⟩)]
          · rw [List.drop_eq_nil_of_le (by omega)]; rfl
      omega
    have hj : (l.getD 0 0).toNat < 256 := UInt8.toNat_lt _
    clear hgo hcnt
    unfold numS
    simp only [hk]
    by_cases hbad : k = 0 ∨ 5 < k ∨ (1 < k ∧ (l.getD 0 0).toNat = 48)
    · rw [if_pos hbad]
      repeat' first
        | (refine J.isJ ?_; (first | (first | (refine J.o 0 ?_; refine J.ev' hΓ ?_) | refine J.nil ?_ | refine J.kd ?_ | (refine J.o 4 ?_; first | refine J.e0 hΓ ?_ | refine J.lT default hΓ ?_ | refine J.e1 hΓ ?_ | refine J.e2 hΓ ?_ | refine J.lR hΓ ?_) | (refine J.o 3 ?_; first | refine J.iA hΓ ?_ | refine J.iJ hΓ ?_ | refine J.fP hΓ ?_ | refine J.iC hΓ ?_ | refine J.ev' hΓ ?_) | (refine J.o 1 ?_; first | refine J.ad ?_ | refine J.ct ?_ | refine J.sb ?_ | refine J.mu ?_ | refine J.ng ?_ | refine J.qu ?_ | refine J.rm ?_ | refine J.s1 ?_ | refine J.sr ?_ | refine J.aW ?_ | refine J.oW ?_ | refine J.nW ?_) | (refine J.o 2 ?_; refine J.cv _ hΓ ?_) | (refine J.o 5 ?_; first | refine J.t0 hΓ ?_ | refine J.t1 hΓ ?_ | refine J.t2 hΓ ?_ | refine J.tT _ default hΓ (fun _ _ => ?_) | refine J.tT1 _ default hΓ (fun _ _ => ?_) | refine J.tT2 _ default hΓ (fun _ _ => ?_) | refine J.tT3 _ default hΓ (fun _ _ => ?_)) | (refine J.o 6 ?_; refine J.bx (fun _ => ?_)) | (refine J.o 7 ?_; refine J.al hΓ (fun _ => ?_)) | (refine J.o 8 ?_; refine J.bd hΓ ?_) | (refine J.o 9 ?_; refine J.bl hΓ (fun _ => ?_)) | (refine J.o 10 ?_; first | refine J.ls hΓ ?_ | refine J.ev' hΓ ?_) | (refine J.o 11 ?_; first | refine J.eS ?_ | refine J.xS ?_ | refine J.ev' hΓ ?_ | refine J.nT hΓ ?_) | (refine J.o 12 ?_; refine J.ix hΓ ?_) | (refine J.o 13 ?_; first | refine J.sL hΓ ?_ | refine J.sH hΓ ?_) | (refine J.o 14 ?_; refine J.mf hΓ ?_) | refine J.kn ?_) | ((fail_if_success refine J.wt ?_); refine J.gc rfl rfl (fun hc => ?_) (fun hc => ?_) <;> ((try simp only [decide_eq_true_eq, decide_eq_false_iff_not, beq_iff_eq, beq_eq_false_iff_ne, bne_iff_ne, bne_eq_false_iff_eq, Bool.not_eq_true', Bool.not_eq_false', Bool.not_eq_true, Bool.not_eq_false] at hc) <;> first | (first | (exact absurd rfl hc) | (exfalso; omega) | (exact absurd (hc.symm.trans (by assumption : _ = false)) (by decide)) | (exact absurd (hc.symm.trans (by assumption : _ = true)) (by decide))) | skip))))
        | (first | refine JC.seq ?_ | refine JC.region ?_ | refine JC.block ?_ | refine JC.ret ?_ | refine JC.exit ?_ | refine JC.skip ?_ | refine thenK.nn ?_ | refine thenK.r ?_ | refine thenK.x ?_ | refine blockK.nn ?_ | refine blockK.r ?_ | refine blockK.hit rfl ?_ | refine blockK.miss rfl ?_ | refine JC.condT rfl ?_ | refine JC.condF rfl ?_ | (refine JC.cond rfl (fun hc => ?_) (fun hc => ?_) <;> ((try simp only [decide_eq_true_eq, decide_eq_false_iff_not, beq_iff_eq, beq_eq_false_iff_ne, bne_iff_ne, bne_eq_false_iff_eq, Bool.not_eq_true', Bool.not_eq_false', Bool.not_eq_true, Bool.not_eq_false] at hc) <;> first | (first | (exact absurd rfl hc) | (exfalso; omega) | (exact absurd (hc.symm.trans (by assumption : _ = false)) (by decide)) | (exact absurd (hc.symm.trans (by assumption : _ = true)) (by decide))) | skip)) | (refine JC.drawA [] (by kernel_rfl) (by kernel_rfl) ?_) | refine drawK.nn ?_ | refine roundK.nn ?_ | refine roundK.r ?_ | refine roundK.x ?_ | refine loopK.r ?_ | refine loopK.x ?_)
        | fail
      all_goals first | (exfalso; omega) | exact ret2f rfl rfl rfl rfl rfl (fun w1 hw => ⟨_, _, rfl, hw, rfl, rfl⟩)
    · rw [if_neg hbad]
      obtain ⟨n, hn, hb⟩ := atoi_dig (l.take k) (by intro h; have := congrArg List.length h; rw [List.length_take, List.length_nil] at this; omega) (fun x hx => cntD_dig 6 l x (hk ▸ hx))
      have cA := fun w => atoi_any (l.take k) n (by rw [List.length_take]; omega) hn w
      rw [hn]
      repeat' first
        | (refine J.isJ ?_; first | (first | (refine J.o 0 ?_; refine J.ev' hΓ ?_) | refine J.nil ?_ | refine J.kd ?_ | (refine J.o 4 ?_; first | refine J.e0 hΓ ?_ | refine J.lT default hΓ ?_ | refine J.e1 hΓ ?_ | refine J.e2 hΓ ?_ | refine J.lR hΓ ?_) | (refine J.o 3 ?_; first | refine J.iA hΓ ?_ | refine J.iJ hΓ ?_ | refine J.fP hΓ ?_ | refine J.iC hΓ ?_ | refine J.ev' hΓ ?_) | (refine J.o 1 ?_; first | refine J.ad ?_ | refine J.ct ?_ | refine J.sb ?_ | refine J.mu ?_ | refine J.ng ?_ | refine J.qu ?_ | refine J.rm ?_ | refine J.s1 ?_ | refine J.sr ?_ | refine J.aW ?_ | refine J.oW ?_ | refine J.nW ?_) | (refine J.o 2 ?_; refine J.cv _ hΓ ?_) | (refine J.o 5 ?_; first | refine J.t0 hΓ ?_ | refine J.t1 hΓ ?_ | refine J.t2 hΓ ?_ | refine J.tT _ default hΓ (fun _ _ => ?_) | refine J.tT1 _ default hΓ (fun _ _ => ?_) | refine J.tT2 _ default hΓ (fun _ _ => ?_) | refine J.tT3 _ default hΓ (fun _ _ => ?_)) | (refine J.o 6 ?_; refine J.bx (fun _ => ?_)) | (refine J.o 7 ?_; refine J.al hΓ (fun _ => ?_)) | (refine J.o 8 ?_; refine J.bd hΓ ?_) | (refine J.o 9 ?_; refine J.bl hΓ (fun _ => ?_)) | (refine J.o 10 ?_; first | refine J.ls hΓ ?_ | refine J.ev' hΓ ?_) | (refine J.o 11 ?_; first | refine J.eS ?_ | refine J.xS ?_ | refine J.ev' hΓ ?_ | refine J.nT hΓ ?_) | (refine J.o 12 ?_; refine J.ix hΓ ?_) | (refine J.o 13 ?_; first | refine J.sL hΓ ?_ | refine J.sH hΓ ?_) | (refine J.o 14 ?_; refine J.mf hΓ ?_) | refine J.kn ?_) | ((refine J.fn 51 rfl ?_; refine J.call0 eAtoi rfl rfl (fun w hw => cA w) ?_)) | ((fail_if_success refine J.wt ?_); refine J.gc rfl rfl (fun hc => ?_) (fun hc => ?_) <;> ((try simp only [decide_eq_true_eq, decide_eq_false_iff_not, beq_iff_eq, beq_eq_false_iff_ne, bne_iff_ne, bne_eq_false_iff_eq, Bool.not_eq_true', Bool.not_eq_false', Bool.not_eq_true, Bool.not_eq_false] at hc) <;> first | (first | (exact absurd rfl hc) | (exfalso; omega) | (exact absurd (hc.symm.trans (by assumption : _ = false)) (by decide)) | (exact absurd (hc.symm.trans (by assumption : _ = true)) (by decide))) | skip)))
        | (first | refine JC.seq ?_ | refine JC.region ?_ | refine JC.block ?_ | refine JC.ret ?_ | refine JC.exit ?_ | refine JC.skip ?_ | refine thenK.nn ?_ | refine thenK.r ?_ | refine thenK.x ?_ | refine blockK.nn ?_ | refine blockK.r ?_ | refine blockK.hit rfl ?_ | refine blockK.miss rfl ?_ | refine JC.condT rfl ?_ | refine JC.condF rfl ?_ | (refine JC.cond rfl (fun hc => ?_) (fun hc => ?_) <;> ((try simp only [decide_eq_true_eq, decide_eq_false_iff_not, beq_iff_eq, beq_eq_false_iff_ne, bne_iff_ne, bne_eq_false_iff_eq, Bool.not_eq_true', Bool.not_eq_false', Bool.not_eq_true, Bool.not_eq_false] at hc) <;> first | (first | (exact absurd rfl hc) | (exfalso; omega) | (exact absurd (hc.symm.trans (by assumption : _ = false)) (by decide)) | (exact absurd (hc.symm.trans (by assumption : _ = true)) (by decide))) | skip)) | (refine JC.drawA [] (by kernel_rfl) (by kernel_rfl) ?_) | refine drawK.nn ?_ | refine roundK.nn ?_ | refine roundK.r ?_ | refine roundK.x ?_ | refine loopK.r ?_ | refine loopK.x ?_)
        | fail
      all_goals first | (exfalso; omega) | exact ret2f rfl rfl rfl rfl rfl (fun w1 hw => ⟨_, _, rfl, hw, rfl, rfl⟩)
end Go.Proofs.YtdiciemlbhkilaaDoor
