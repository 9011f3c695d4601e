/- SiftKeeps: part 7. -/
import Derived.Test.YtbhgahjeocnfcaaGreatKeF
namespace Go.Proofs.YtbhgahjeocnfcaaGreat
open Go Go.Cx Go.RowKit
set_option linter.unusedVariables false
set_option linter.unusedSimpArgs false
set_option maxHeartbeats 4000000
attribute [local irreducible] J JC thenK blockK loopK roundK drawK retK QW Qt pel List.set Calls
open Go.Maps Go.Lib
set_option maxRecDepth 8000
attribute [local irreducible] JE Br eK0 eK3 brK pc
structure HV where
  a : Option Addr
  c : Nat
  l : List Int
instance : Inhabited HV := ⟨⟨none, 0, []⟩⟩
def encHV (v : HV) : List Value := [.slice v.a v.l.length v.c]
structure LLR (a : Option Addr) (vs : List HV) (h : Heap) : Prop where
  o : SlT encHV 1 a vs h
  i : ∀ v, v ∈ vs → SlT encI 1 v.a v.l h
def varI (l : Int) : Int := if 1 ≤ l ∧ l ≤ 128 then l else if -128 ≤ l ∧ l ≤ -1 then -l else 0
def validB (l n : Int) : Bool := decide (l ≠ 0 ∧ -n ≤ l ∧ l ≤ n)
theorem eVarL : Entr Tryz.prog 31 := Entr.of Tryz.func31 rfl rfl
theorem eValid : Entr Tryz.prog 55 := Entr.of Tryz.func55 rfl rfl
theorem varL_any (l : Int) (w : World) : Calls Tryz.prog 31 #[.int .i64 l] w fun e w' => e = .returned (.int .i64 (varI l)) ∧ Below w.heap.size w w' := by
  refine calls_of_JC (R := []) Tryz.func31 Tryz.ntmps31 rfl rfl (Holds.nil _) ?_
  repeat' first
    | (refine J.isJ ?_; first | (fail) | (first | (refine J.o 0 ?_; refine J.ev' hΓ ?_) | refine J.nil ?_ | refine J.kd ?_ | (refine J.o 3 ?_; first | refine J.ev' hΓ ?_) | (refine J.o 1 ?_; first | refine J.ng ?_) | (refine J.o 10 ?_; refine J.ev' hΓ ?_) | (refine J.o 11 ?_; refine J.ev' hΓ ?_)) | ((fail_if_success refine J.wt ?_); refine J.gc rfl rfl (fun hc => ?_) (fun hc => ?_) <;> ((try simp only [decide_eq_true_eq, decide_eq_false_iff_not, beq_iff_eq, beq_eq_false_iff_ne, bne_iff_ne, bne_eq_false_iff_eq, Bool.not_eq_true', Bool.not_eq_false', Bool.not_eq_true, Bool.not_eq_false] at hc) <;> first | (first | (exact absurd rfl hc) | (exfalso; omega) | (exact absurd (hc.symm.trans (by assumption : _ = false)) (by decide)) | (exact absurd (hc.symm.trans (by assumption : _ = true)) (by decide))) | skip)))
    | (first | refine JC.seq ?_ | refine JC.region ?_ | refine JC.block ?_ | refine JC.ret ?_ | refine JC.skip ?_ | refine thenK.nn ?_ | refine thenK.r ?_ | refine blockK.nn ?_ | refine blockK.r ?_ | refine JC.condF rfl ?_ | (refine JC.cond rfl (fun hc => ?_) (fun hc => ?_) <;> ((try simp only [decide_eq_true_eq, decide_eq_false_iff_not, beq_iff_eq, beq_eq_false_iff_ne, bne_iff_ne, bne_eq_false_iff_eq, Bool.not_eq_true', Bool.not_eq_false', Bool.not_eq_true, Bool.not_eq_false] at hc) <;> first | (first | (exact absurd rfl hc) | (exfalso; omega) | (exact absurd (hc.symm.trans (by assumption : _ = false)) (by decide)) | (exact absurd (hc.symm.trans (by assumption : _ = true)) (by decide))) | skip)))
    | (fail)
    | fail
  all_goals first | (exfalso; omega) | skip
  all_goals (refine ret1f rfl rfl rfl (fun w1 hw => ⟨retI ?_, hw.below⟩))
  all_goals (clear hw; unfold varI; grind)
theorem valid_any (l n : Int) (hn : 0 ≤ n ∧ n ≤ 128) (w : World) : Calls Tryz.prog 55 #[.int .i64 l, .int .i64 n] w fun e w' => e = .returned (.bool (validB l n)) ∧ Below w.heap.size w w' := by
  refine calls_of_JC (R := []) Tryz.func55 Tryz.ntmps55 rfl rfl (Holds.nil _) ?_
  repeat' first
    | (refine J.isJ ?_; first | ((refine J.fc 31 ?_; refine J.call0 eVarL rfl rfl (fun w hw => varL_any l w) ?_)) | (first | (refine J.o 0 ?_; refine J.ev' hΓ ?_) | refine J.nil ?_ | refine J.kd ?_ | (refine J.o 3 ?_; first | refine J.ev' hΓ ?_) | (refine J.o 10 ?_; refine J.ev' hΓ ?_) | (refine J.o 11 ?_; refine J.ev' hΓ ?_)) | ((fail_if_success refine J.wt ?_); refine J.gc rfl rfl (fun hc => ?_) (fun hc => ?_) <;> ((try simp only [decide_eq_true_eq, decide_eq_false_iff_not, beq_iff_eq, beq_eq_false_iff_ne, bne_iff_ne, bne_eq_false_iff_eq, Bool.not_eq_true', Bool.not_eq_false', Bool.not_eq_true, Bool.not_eq_false] at hc) <;> first | (first | (exact absurd rfl hc) | (exfalso; omega) | (exact absurd (hc.symm.trans (by assumption : _ = false)) (by decide)) | (exact absurd (hc.symm.trans (by assumption : _ = true)) (by decide))) | skip)))
    | (first | refine JC.seq ?_ | refine JC.region ?_ | refine JC.ret ?_ | refine thenK.nn ?_)
    | (fail)
    | fail
  all_goals first | (exfalso; omega) | skip
  all_goals (refine ret1f rfl rfl rfl (fun w1 hw => ⟨retB ?_, hw.below⟩))
  all_goals (clear hw; unfold varI validB at *; grind)
def litsE (N : Int) : List Int → Int
  | [] => 0
  | l :: ls => if validB l N then litsE N ls else 1
def clsE (N : Int) : List (List Int) → Int
  | [] => 0
  | c :: cs => if 128 < c.length then 2 else if litsE N c = 0 then clsE N cs else 1
def thE (N : Int) (T : List (List Int)) : Int := if N < 0 ∨ 128 < N then 6 else if 4096 < T.length then 2 else clsE N T
theorem litsE_cons (N l : Int) (ls : List Int) : litsE N (l :: ls) = if validB l N then litsE N ls else 1 := rfl
theorem litsE_01 (N : Int) : ∀ l : List Int, litsE N l = 0 ∨ litsE N l = 1
  | [] => .inl rfl
  | l :: ls => by
    unfold litsE
    split
    · exact litsE_01 N ls
    · exact .inr rfl
theorem litsE_ok {N : Int} : ∀ {l : List Int}, litsE N l = 0 ↔ ∀ x ∈ l, x ≠ 0 ∧ -N ≤ x ∧ x ≤ N
  | [] => by simp [litsE]
  | x :: l => by
    unfold litsE
    by_cases h : validB x N = true
    · rw [if_pos h, litsE_ok (l := l)]
      unfold validB at h
      have := of_decide_eq_true h
      constructor
      · intro g y hy
        rcases List.mem_cons.1 hy with rfl | hy
        · exact this
        · exact g y hy
      · exact fun g y hy => g y (List.mem_cons_of_mem _ hy)
    · rw [if_neg h]
      constructor
      · intro g; cases g
      · intro g
        exact absurd (by unfold validB; exact decide_eq_true (g x List.mem_cons_self)) h
theorem clsE_ok {N : Int} : ∀ {T : List (List Int)}, clsE N T = 0 ↔ ∀ c ∈ T, c.length ≤ 128 ∧ ∀ x ∈ c, x ≠ 0 ∧ -N ≤ x ∧ x ≤ N
  | [] => by simp [clsE]
  | c :: T => by
    unfold clsE
    by_cases h1 : 128 < c.length
    · rw [if_pos h1]
      exact ⟨fun g => absurd g (by decide), fun g => by have := (g c List.mem_cons_self).1; omega⟩
    · rw [if_neg h1]
      by_cases h2 : litsE N c = 0
      · rw [if_pos h2, clsE_ok (T := T)]
        constructor
        · intro g y hy
          rcases List.mem_cons.1 hy with rfl | hy
          · exact ⟨by omega, litsE_ok.1 h2⟩
          · exact g y hy
        · exact fun g y hy => g y (List.mem_cons_of_mem _ hy)
      · rw [if_neg h2]
        exact ⟨fun g => absurd g (by decide), fun g => absurd (litsE_ok.2 (g c List.mem_cons_self).2) h2⟩
theorem thE_ok {N : Int} {T : List (List Int)} : thE N T = 0 ↔ (0 ≤ N ∧ N ≤ 128) ∧ T.length ≤ 4096 ∧ ∀ c ∈ T, c.length ≤ 128 ∧ ∀ x ∈ c, x ≠ 0 ∧ -N ≤ x ∧ x ≤ N := by
  unfold thE
  by_cases h1 : N < 0 ∨ 128 < N
  · rw [if_pos h1]; exact ⟨fun g => absurd g (by decide), fun g => by omega⟩
  · rw [if_neg h1]
    by_cases h2 : 4096 < T.length
    · rw [if_pos h2]; exact ⟨fun g => absurd g (by decide), fun g => by omega⟩
    · rw [if_neg h2, clsE_ok]
      exact ⟨fun g => ⟨by omega, by omega, g⟩, fun g => g.2.2⟩
theorem eTCheck : Entr Tryz.prog 26 := Entr.of Tryz.func26 rfl rfl
theorem tcheck_any (N : Int) (a : Option Addr) (cap : Nat) (vs : List HV) (h : Heap) (hr : LLR a vs h) (w : World) (hw : Holds h w) :
    Calls Tryz.prog 26 #[.agg ⟨[.int .i64 N, .slice a vs.length cap]⟩] w fun e w' => e = .returned (.int .i64 (thE N (vs.map (·.l)))) ∧ Below w.heap.size w w' := by
  have q0 : ∀ L, RdH h L h := fun L => RdH.old fun _ hh => hh
  obtain ⟨ho, hi⟩ := hr
  have hlen : (vs.map (·.l)).length = vs.length := List.length_map _
  by_cases hN : N < 0 ∨ 128 < N
  ·
    have e0 : thE N (vs.map (·.l)) = 6 := by unfold thE; rw [if_pos hN]
    rw [e0]
    refine calls_of_JC (R := h) Tryz.func26 Tryz.ntmps26 rfl rfl (hw) ?_
    repeat' first
      | (refine J.isJ ?_; first | ((refine J.o 6 ?_; refine J.bx (fun b1 => ?_))) | (first | (refine J.o 0 ?_; refine J.ev' hΓ ?_) | refine J.nil ?_ | refine J.kd ?_ | (refine J.o 4 ?_; first | refine J.lT default hΓ ?_ | refine J.lR hΓ ?_) | (refine J.o 3 ?_; first | refine J.iJ hΓ ?_ | refine J.ev' hΓ ?_) | (refine J.o 1 ?_; first | refine J.ad ?_) | (refine J.o 6 ?_; refine J.bx (fun _ => ?_)) | (refine J.o 10 ?_; refine J.ev' hΓ ?_) | (refine J.o 11 ?_; refine J.ev' hΓ ?_)) | ((fail_if_success refine J.wt ?_); refine J.gc rfl rfl (fun hc => ?_) (fun hc => ?_) <;> ((try simp only [decide_eq_true_eq, decide_eq_false_iff_not, beq_iff_eq, beq_eq_false_iff_ne, bne_iff_ne, bne_eq_false_iff_eq, Bool.not_eq_true', Bool.not_eq_false', Bool.not_eq_true, Bool.not_eq_false] at hc) <;> first | (first | (exact absurd rfl hc) | (exfalso; omega) | (exact absurd (hc.symm.trans (by assumption : _ = false)) (by decide)) | (exact absurd (hc.symm.trans (by assumption : _ = true)) (by decide))) | skip)))
      | (first | refine JC.seq ?_ | refine JC.region ?_ | refine JC.block ?_ | refine JC.ret ?_ | refine JC.exit ?_ | refine JC.skip ?_ | refine thenK.nn ?_ | refine thenK.r ?_ | refine thenK.x ?_ | refine blockK.nn ?_ | refine blockK.r ?_ | refine blockK.hit rfl ?_ | refine JC.condT rfl ?_ | refine JC.condF rfl ?_ | (refine JC.cond rfl (fun hc => ?_) (fun hc => ?_) <;> ((try simp only [decide_eq_true_eq, decide_eq_false_iff_not, beq_iff_eq, beq_eq_false_iff_ne, bne_iff_ne, bne_eq_false_iff_eq, Bool.not_eq_true', Bool.not_eq_false', Bool.not_eq_true, Bool.not_eq_false] at hc) <;> first | (first | (exact absurd rfl hc) | (exfalso; omega) | (exact absurd (hc.symm.trans (by assumption : _ = false)) (by decide)) | (exact absurd (hc.symm.trans (by assumption : _ = true)) (by decide))) | skip)) | refine loopK.r ?_ | refine loopK.x ?_)
      | (fail)
      | fail
    all_goals first | (exfalso; omega) | skip
    all_goals (refine ret1f rfl rfl rfl (fun w1 hw => ⟨rfl, hw.below⟩))
  by_cases hT : 4096 < vs.length
  ·
    have e0 : thE N (vs.map (·.l)) = 2 := by unfold thE; rw [if_neg hN, if_pos (by omega)]
    rw [e0]
    refine calls_of_JC (R := h) Tryz.func26 Tryz.ntmps26 rfl rfl (hw) ?_
    repeat' first
      | (refine J.isJ ?_; first | ((refine J.o 6 ?_; refine J.bx (fun b1 => ?_))) | (first | (refine J.o 0 ?_; refine J.ev' hΓ ?_) | refine J.nil ?_ | refine J.kd ?_ | (refine J.o 4 ?_; first | refine J.lT default hΓ ?_ | refine J.lR hΓ ?_) | (refine J.o 3 ?_; first | refine J.iJ hΓ ?_ | refine J.ev' hΓ ?_) | (refine J.o 1 ?_; first | refine J.ad ?_) | (refine J.o 6 ?_; refine J.bx (fun _ => ?_)) | (refine J.o 10 ?_; refine J.ev' hΓ ?_) | (refine J.o 11 ?_; refine J.ev' hΓ ?_)) | ((fail_if_success refine J.wt ?_); refine J.gc rfl rfl (fun hc => ?_) (fun hc => ?_) <;> ((try simp only [decide_eq_true_eq, decide_eq_false_iff_not, beq_iff_eq, beq_eq_false_iff_ne, bne_iff_ne, bne_eq_false_iff_eq, Bool.not_eq_true', Bool.not_eq_false', Bool.not_eq_true, Bool.not_eq_false] at hc) <;> first | (first | (exact absurd rfl hc) | (exfalso; omega) | (exact absurd (hc.symm.trans (by assumption : _ = false)) (by decide)) | (exact absurd (hc.symm.trans (by assumption : _ = true)) (by decide))) | skip)))
      | (first | refine JC.seq ?_ | refine JC.region ?_ | refine JC.block ?_ | refine JC.ret ?_ | refine JC.exit ?_ | refine JC.skip ?_ | refine thenK.nn ?_ | refine thenK.r ?_ | refine thenK.x ?_ | refine blockK.nn ?_ | refine blockK.r ?_ | refine blockK.hit rfl ?_ | refine JC.condT rfl ?_ | refine JC.condF rfl ?_ | (refine JC.cond rfl (fun hc => ?_) (fun hc => ?_) <;> ((try simp only [decide_eq_true_eq, decide_eq_false_iff_not, beq_iff_eq, beq_eq_false_iff_ne, bne_iff_ne, bne_eq_false_iff_eq, Bool.not_eq_true', Bool.not_eq_false', Bool.not_eq_true, Bool.not_eq_false] at hc) <;> first | (first | (exact absurd rfl hc) | (exfalso; omega) | (exact absurd (hc.symm.trans (by assumption : _ = false)) (by decide)) | (exact absurd (hc.symm.trans (by assumption : _ = true)) (by decide))) | skip)) | refine loopK.r ?_ | refine loopK.x ?_)
      | (fail)
      | fail
    all_goals first | (exfalso; omega) | skip
    all_goals (refine ret1f rfl rfl rfl (fun w1 hw => ⟨rfl, hw.below⟩))
  have e0 : thE N (vs.map (·.l)) = clsE N ((vs.drop 0).map (·.l)) := by unfold thE; rw [if_neg hN, if_neg (by omega)]; rfl
  obtain ⟨R0, hR0⟩ : ∃ R0, clsE N ((vs.drop 0).map (·.l)) = R0 := ⟨_, rfl⟩
  rw [e0, hR0]
  refine calls_of_JC (R := h) Tryz.func26 Tryz.ntmps26 rfl rfl (hw) ?_
  repeat' first
    | (refine J.isJ ?_; first | ((refine J.o 6 ?_; refine J.bx (fun b1 => ?_))) | (first | (refine J.o 0 ?_; refine J.ev' hΓ ?_) | refine J.nil ?_ | refine J.kd ?_ | (refine J.o 4 ?_; first | refine J.lT default hΓ ?_ | refine J.lR hΓ ?_) | (refine J.o 3 ?_; first | refine J.iJ hΓ ?_ | refine J.ev' hΓ ?_) | (refine J.o 1 ?_; first | refine J.ad ?_) | (refine J.o 6 ?_; refine J.bx (fun _ => ?_)) | (refine J.o 10 ?_; refine J.ev' hΓ ?_) | (refine J.o 11 ?_; refine J.ev' hΓ ?_)) | ((fail_if_success refine J.wt ?_); refine J.gc rfl rfl (fun hc => ?_) (fun hc => ?_) <;> ((try simp only [decide_eq_true_eq, decide_eq_false_iff_not, beq_iff_eq, beq_eq_false_iff_ne, bne_iff_ne, bne_eq_false_iff_eq, Bool.not_eq_true', Bool.not_eq_false', Bool.not_eq_true, Bool.not_eq_false] at hc) <;> first | (first | (exact absurd rfl hc) | (exfalso; omega) | (exact absurd (hc.symm.trans (by assumption : _ = false)) (by decide)) | (exact absurd (hc.symm.trans (by assumption : _ = true)) (by decide))) | skip)))
    | (first | refine JC.seq ?_ | refine JC.region ?_ | refine JC.block ?_ | refine JC.ret ?_ | refine JC.exit ?_ | refine JC.skip ?_ | refine thenK.nn ?_ | refine thenK.r ?_ | refine thenK.x ?_ | refine blockK.nn ?_ | refine blockK.r ?_ | refine blockK.hit rfl ?_ | refine JC.condT rfl ?_ | refine JC.condF rfl ?_ | (refine JC.cond rfl (fun hc => ?_) (fun hc => ?_) <;> ((try simp only [decide_eq_true_eq, decide_eq_false_iff_not, beq_iff_eq, beq_eq_false_iff_ne, bne_iff_ne, bne_eq_false_iff_eq, Bool.not_eq_true', Bool.not_eq_false', Bool.not_eq_true, Bool.not_eq_false] at hc) <;> first | (first | (exact absurd rfl hc) | (exfalso; omega) | (exact absurd (hc.symm.trans (by assumption : _ = false)) (by decide)) | (exact absurd (hc.symm.trans (by assumption : _ = true)) (by decide))) | skip)) | refine loopK.r ?_ | refine loopK.x ?_)
    | (fail)
    | fail
  all_goals first | (exfalso; omega) | skip
  refine JC.loop (fun i => i == 2 || i == 4 || i == 6 || Nat.ble 22 i) (fun m g L => ∃ (k : Nat), g 22 = .int .i64 (k : Int) ∧ k + m = vs.length ∧ clsE N ((vs.drop k).map (·.l)) = R0 ∧ L = _) vs.length ⟨0, rfl, by omega, hR0, rfl⟩ ?_
  rintro m g L ⟨k, e22, hkm, hRk, rfl⟩
  refine JC.pin 22 e22 ?_
  rcases Nat.lt_or_ge k vs.length with hk | hk
  ·
    rw [drop_g vs k hk, List.map_cons] at hRk
    have hik := hi _ (mem_g vs k hk)
    by_cases hlc : 128 < (vs.getD k default).l.length
    ·
      unfold clsE at hRk
      rw [if_pos hlc] at hRk
      repeat' first
        | (refine J.isJ ?_; first | ((refine J.o 4 ?_; first | refine J.lT default hΓ ?_ (hs := ho) (hr := q0 _))) | (first | (refine J.o 0 ?_; refine J.ev' hΓ ?_) | refine J.nil ?_ | refine J.kd ?_ | (refine J.o 4 ?_; first | refine J.lT default hΓ ?_ | refine J.lR hΓ ?_) | (refine J.o 3 ?_; first | refine J.iJ hΓ ?_ | refine J.ev' hΓ ?_) | (refine J.o 1 ?_; first | refine J.ad ?_) | (refine J.o 6 ?_; refine J.bx (fun _ => ?_)) | (refine J.o 10 ?_; refine J.ev' hΓ ?_) | (refine J.o 11 ?_; refine J.ev' hΓ ?_)) | ((fail_if_success refine J.wt ?_); refine J.gc rfl rfl (fun hc => ?_) (fun hc => ?_) <;> ((try simp only [decide_eq_true_eq, decide_eq_false_iff_not, beq_iff_eq, beq_eq_false_iff_ne, bne_iff_ne, bne_eq_false_iff_eq, Bool.not_eq_true', Bool.not_eq_false', Bool.not_eq_true, Bool.not_eq_false] at hc) <;> first | (first | (exact absurd rfl hc) | (exfalso; omega) | (exact absurd (hc.symm.trans (by assumption : _ = false)) (by decide)) | (exact absurd (hc.symm.trans (by assumption : _ = true)) (by decide))) | skip)))
        | (first | refine JC.seq ?_ | refine JC.region ?_ | refine JC.block ?_ | refine JC.ret ?_ | refine JC.exit ?_ | refine JC.skip ?_ | refine thenK.nn ?_ | refine thenK.r ?_ | refine thenK.x ?_ | refine blockK.nn ?_ | refine blockK.r ?_ | refine blockK.hit rfl ?_ | refine JC.condT rfl ?_ | refine JC.condF rfl ?_ | (refine JC.cond rfl (fun hc => ?_) (fun hc => ?_) <;> ((try simp only [decide_eq_true_eq, decide_eq_false_iff_not, beq_iff_eq, beq_eq_false_iff_ne, bne_iff_ne, bne_eq_false_iff_eq, Bool.not_eq_true', Bool.not_eq_false', Bool.not_eq_true, Bool.not_eq_false] at hc) <;> first | (first | (exact absurd rfl hc) | (exfalso; omega) | (exact absurd (hc.symm.trans (by assumption : _ = false)) (by decide)) | (exact absurd (hc.symm.trans (by assumption : _ = true)) (by decide))) | skip)) | refine loopK.r ?_ | refine loopK.x ?_)
        | (fail)
        | fail
      all_goals first | (exfalso; omega) | skip
      all_goals (refine ret1f rfl rfl rfl (fun w1 hw => ⟨?_, hw.below⟩))
      rw [hRk]
    unfold clsE at hRk
    rw [if_neg hlc] at hRk
    repeat' first
      | (refine J.isJ ?_; first | ((refine J.o 4 ?_; first | refine J.lT default hΓ ?_ (hs := ho) (hr := q0 _))) | (first | (refine J.o 0 ?_; refine J.ev' hΓ ?_) | refine J.nil ?_ | refine J.kd ?_ | (refine J.o 4 ?_; first | refine J.lT default hΓ ?_ | refine J.lR hΓ ?_) | (refine J.o 3 ?_; first | refine J.iJ hΓ ?_ | refine J.ev' hΓ ?_) | (refine J.o 1 ?_; first | refine J.ad ?_) | (refine J.o 6 ?_; refine J.bx (fun _ => ?_)) | (refine J.o 10 ?_; refine J.ev' hΓ ?_) | (refine J.o 11 ?_; refine J.ev' hΓ ?_)) | ((fail_if_success refine J.wt ?_); refine J.gc rfl rfl (fun hc => ?_) (fun hc => ?_) <;> ((try simp only [decide_eq_true_eq, decide_eq_false_iff_not, beq_iff_eq, beq_eq_false_iff_ne, bne_iff_ne, bne_eq_false_iff_eq, Bool.not_eq_true', Bool.not_eq_false', Bool.not_eq_true, Bool.not_eq_false] at hc) <;> first | (first | (exact absurd rfl hc) | (exfalso; omega) | (exact absurd (hc.symm.trans (by assumption : _ = false)) (by decide)) | (exact absurd (hc.symm.trans (by assumption : _ = true)) (by decide))) | skip)))
      | (first | refine JC.seq ?_ | refine JC.region ?_ | refine JC.block ?_ | refine JC.ret ?_ | refine JC.exit ?_ | refine JC.skip ?_ | refine thenK.nn ?_ | refine thenK.r ?_ | refine thenK.x ?_ | refine blockK.nn ?_ | refine blockK.r ?_ | refine blockK.hit rfl ?_ | refine JC.condT rfl ?_ | refine JC.condF rfl ?_ | (refine JC.cond rfl (fun hc => ?_) (fun hc => ?_) <;> ((try simp only [decide_eq_true_eq, decide_eq_false_iff_not, beq_iff_eq, beq_eq_false_iff_ne, bne_iff_ne, bne_eq_false_iff_eq, Bool.not_eq_true', Bool.not_eq_false', Bool.not_eq_true, Bool.not_eq_false] at hc) <;> first | (first | (exact absurd rfl hc) | (exfalso; omega) | (exact absurd (hc.symm.trans (by assumption : _ = false)) (by decide)) | (exact absurd (hc.symm.trans (by assumption : _ = true)) (by decide))) | skip)) | refine loopK.r ?_ | refine loopK.x ?_)
      | (fail)
      | fail
    all_goals first | (exfalso; omega) | skip
    refine JC.loop (fun i => i == 2 || i == 6 || (Nat.ble 31 i && Nat.ble i 40)) (fun m g L => ∃ (j : Nat), g 31 = .int .i64 (j : Int) ∧ j + m = (vs.getD k default).l.length ∧ litsE N ((vs.getD k default).l.drop j) = litsE N (vs.getD k default).l ∧ L = _) (vs.getD k default).l.length ⟨0, rfl, by omega, rfl, rfl⟩ ?_
    rintro m3 g3 L3 ⟨j, e31, hjm, hLj, rfl⟩
    refine JC.pin 31 e31 ?_
    rcases Nat.lt_or_ge j (vs.getD k default).l.length with hj | hj
    ·
      rw [drop_g _ j hj, litsE_cons] at hLj
      have cV := fun w => valid_any ((vs.getD k default).l.getD j default) N (by omega) w
      cases hv : validB ((vs.getD k default).l.getD j default) N with
      | true =>
        rw [hv] at cV
        rw [hv, if_pos rfl] at hLj
        repeat' first
          | (refine J.isJ ?_; first | (first | (refine J.o 4 ?_; first | refine J.lT default hΓ ?_ (hs := hik) (hr := q0 _)) | (refine J.fc 55 ?_; refine J.call0 eValid rfl rfl (fun w hw => cV w) ?_)) | (first | (refine J.o 0 ?_; refine J.ev' hΓ ?_) | refine J.nil ?_ | refine J.kd ?_ | (refine J.o 4 ?_; first | refine J.lT default hΓ ?_ | refine J.lR hΓ ?_) | (refine J.o 3 ?_; first | refine J.iJ hΓ ?_ | refine J.ev' hΓ ?_) | (refine J.o 1 ?_; first | refine J.ad ?_) | (refine J.o 6 ?_; refine J.bx (fun _ => ?_)) | (refine J.o 10 ?_; refine J.ev' hΓ ?_) | (refine J.o 11 ?_; refine J.ev' hΓ ?_)) | ((fail_if_success refine J.wt ?_); refine J.gc rfl rfl (fun hc => ?_) (fun hc => ?_) <;> ((try simp only [decide_eq_true_eq, decide_eq_false_iff_not, beq_iff_eq, beq_eq_false_iff_ne, bne_iff_ne, bne_eq_false_iff_eq, Bool.not_eq_true', Bool.not_eq_false', Bool.not_eq_true, Bool.not_eq_false] at hc) <;> first | (first | (exact absurd rfl hc) | (exfalso; omega) | (exact absurd (hc.symm.trans (by assumption : _ = false)) (by decide)) | (exact absurd (hc.symm.trans (by assumption : _ = true)) (by decide))) | skip)))
          | (first | refine JC.seq ?_ | refine JC.region ?_ | refine JC.block ?_ | refine JC.ret ?_ | refine JC.exit ?_ | refine JC.skip ?_ | refine thenK.nn ?_ | refine thenK.r ?_ | refine thenK.x ?_ | refine blockK.nn ?_ | refine blockK.r ?_ | refine blockK.hit rfl ?_ | refine JC.condT rfl ?_ | refine JC.condF rfl ?_ | (refine JC.cond rfl (fun hc => ?_) (fun hc => ?_) <;> ((try simp only [decide_eq_true_eq, decide_eq_false_iff_not, beq_iff_eq, beq_eq_false_iff_ne, bne_iff_ne, bne_eq_false_iff_eq, Bool.not_eq_true', Bool.not_eq_false', Bool.not_eq_true, Bool.not_eq_false] at hc) <;> first | (first | (exact absurd rfl hc) | (exfalso; omega) | (exact absurd (hc.symm.trans (by assumption : _ = false)) (by decide)) | (exact absurd (hc.symm.trans (by assumption : _ = true)) (by decide))) | skip)) | refine loopK.r ?_ | refine loopK.x ?_)
          | (fail)
          | fail
        all_goals first | (exfalso; omega) | skip
        all_goals refine loopK.nn (m3 - 1) (by omega) (by repeat (first | refine Ag.upd rfl ?_ | exact Ag.hv | refine Ag.hv2 (fun i hi => by simp at hi ⊢; omega) ?_)) ⟨j + 1, ?_, by omega, hLj, rfl⟩
        all_goals (show Value.int .i64 _ = _; congr 1)
      | false =>
        rw [hv] at cV
        rw [hv, if_neg (by decide)] at hLj
        rw [if_neg (by rw [← hLj]; decide)] at hRk
        repeat' first
          | (refine J.isJ ?_; first | (first | (refine J.o 4 ?_; first | refine J.lT default hΓ ?_ (hs := hik) (hr := q0 _)) | (refine J.fc 55 ?_; refine J.call0 eValid rfl rfl (fun w hw => cV w) ?_)) | (first | (refine J.o 0 ?_; refine J.ev' hΓ ?_) | refine J.nil ?_ | refine J.kd ?_ | (refine J.o 4 ?_; first | refine J.lT default hΓ ?_ | refine J.lR hΓ ?_) | (refine J.o 3 ?_; first | refine J.iJ hΓ ?_ | refine J.ev' hΓ ?_) | (refine J.o 1 ?_; first | refine J.ad ?_) | (refine J.o 6 ?_; refine J.bx (fun _ => ?_)) | (refine J.o 10 ?_; refine J.ev' hΓ ?_) | (refine J.o 11 ?_; refine J.ev' hΓ ?_)) | ((fail_if_success refine J.wt ?_); refine J.gc rfl rfl (fun hc => ?_) (fun hc => ?_) <;> ((try simp only [decide_eq_true_eq, decide_eq_false_iff_not, beq_iff_eq, beq_eq_false_iff_ne, bne_iff_ne, bne_eq_false_iff_eq, Bool.not_eq_true', Bool.not_eq_false', Bool.not_eq_true, Bool.not_eq_false] at hc) <;> first | (first | (exact absurd rfl hc) | (exfalso; omega) | (exact absurd (hc.symm.trans (by assumption : _ = false)) (by decide)) | (exact absurd (hc.symm.trans (by assumption : _ = true)) (by decide))) | skip)))
          | (first | refine JC.seq ?_ | refine JC.region ?_ | refine JC.block ?_ | refine JC.ret ?_ | refine JC.exit ?_ | refine JC.skip ?_ | refine thenK.nn ?_ | refine thenK.r ?_ | refine thenK.x ?_ | refine blockK.nn ?_ | refine blockK.r ?_ | refine blockK.hit rfl ?_ | refine JC.condT rfl ?_ | refine JC.condF rfl ?_ | (refine JC.cond rfl (fun hc => ?_) (fun hc => ?_) <;> ((try simp only [decide_eq_true_eq, decide_eq_false_iff_not, beq_iff_eq, beq_eq_false_iff_ne, bne_iff_ne, bne_eq_false_iff_eq, Bool.not_eq_true', Bool.not_eq_false', Bool.not_eq_true, Bool.not_eq_false] at hc) <;> first | (first | (exact absurd rfl hc) | (exfalso; omega) | (exact absurd (hc.symm.trans (by assumption : _ = false)) (by decide)) | (exact absurd (hc.symm.trans (by assumption : _ = true)) (by decide))) | skip)) | refine loopK.r ?_ | refine loopK.x ?_)
          | (fail)
          | fail
        all_goals first | (exfalso; omega) | skip
        all_goals (refine ret1f rfl rfl rfl (fun w1 hw => ⟨?_, hw.below⟩))
        rw [hRk]
    ·
      rw [List.drop_of_length_le hj] at hLj
      have hz : litsE N (vs.getD k default).l = 0 := hLj.symm
      rw [if_pos hz] at hRk
      repeat' first
        | (refine J.isJ ?_; first | (fail) | (first | (refine J.o 0 ?_; refine J.ev' hΓ ?_) | refine J.nil ?_ | refine J.kd ?_ | (refine J.o 4 ?_; first | refine J.lT default hΓ ?_ | refine J.lR hΓ ?_) | (refine J.o 3 ?_; first | refine J.iJ hΓ ?_ | refine J.ev' hΓ ?_) | (refine J.o 1 ?_; first | refine J.ad ?_) | (refine J.o 6 ?_; refine J.bx (fun _ => ?_)) | (refine J.o 10 ?_; refine J.ev' hΓ ?_) | (refine J.o 11 ?_; refine J.ev' hΓ ?_)) | ((fail_if_success refine J.wt ?_); refine J.gc rfl rfl (fun hc => ?_) (fun hc => ?_) <;> ((try simp only [decide_eq_true_eq, decide_eq_false_iff_not, beq_iff_eq, beq_eq_false_iff_ne, bne_iff_ne, bne_eq_false_iff_eq, Bool.not_eq_true', Bool.not_eq_false', Bool.not_eq_true, Bool.not_eq_false] at hc) <;> first | (first | (exact absurd rfl hc) | (exfalso; omega) | (exact absurd (hc.symm.trans (by assumption : _ = false)) (by decide)) | (exact absurd (hc.symm.trans (by assumption : _ = true)) (by decide))) | skip)))
        | (first | refine JC.seq ?_ | refine JC.region ?_ | refine JC.block ?_ | refine JC.ret ?_ | refine JC.exit ?_ | refine JC.skip ?_ | refine thenK.nn ?_ | refine thenK.r ?_ | refine thenK.x ?_ | refine blockK.nn ?_ | refine blockK.r ?_ | refine blockK.hit rfl ?_ | refine JC.condT rfl ?_ | refine JC.condF rfl ?_ | (refine JC.cond rfl (fun hc => ?_) (fun hc => ?_) <;> ((try simp only [decide_eq_true_eq, decide_eq_false_iff_not, beq_iff_eq, beq_eq_false_iff_ne, bne_iff_ne, bne_eq_false_iff_eq, Bool.not_eq_true', Bool.not_eq_false', Bool.not_eq_true, Bool.not_eq_false] at hc) <;> first | (first | (exact absurd rfl hc) | (exfalso; omega) | (exact absurd (hc.symm.trans (by assumption : _ = false)) (by decide)) | (exact absurd (hc.symm.trans (by assumption : _ = true)) (by decide))) | skip)) | refine loopK.r ?_ | refine loopK.x ?_)
        | (fail)
        | fail
      all_goals first | (exfalso; omega) | skip
      all_goals refine loopK.nn (m - 1) (by omega) (by repeat (first | refine Ag.upd rfl ?_ | exact Ag.hv | refine Ag.hv2 (fun i hi => by simp at hi ⊢; omega) ?_)) ⟨k + 1, ?_, by omega, hRk, rfl⟩
      all_goals (show Value.int .i64 _ = _; congr 1)
  ·
    rw [List.drop_of_length_le hk] at hRk
    repeat' first
      | (refine J.isJ ?_; first | (fail) | (first | (refine J.o 0 ?_; refine J.ev' hΓ ?_) | refine J.nil ?_ | refine J.kd ?_ | (refine J.o 4 ?_; first | refine J.lT default hΓ ?_ | refine J.lR hΓ ?_) | (refine J.o 3 ?_; first | refine J.iJ hΓ ?_ | refine J.ev' hΓ ?_) | (refine J.o 1 ?_; first | refine J.ad ?_) | (refine J.o 6 ?_; refine J.bx (fun _ => ?_)) | (refine J.o 10 ?_; refine J.ev' hΓ ?_) | (refine J.o 11 ?_; refine J.ev' hΓ ?_)) | ((fail_if_success refine J.wt ?_); refine J.gc rfl rfl (fun hc => ?_) (fun hc => ?_) <;> ((try simp only [decide_eq_true_eq, decide_eq_false_iff_not, beq_iff_eq, beq_eq_false_iff_ne, bne_iff_ne, bne_eq_false_iff_eq, Bool.not_eq_true', Bool.not_eq_false', Bool.not_eq_true, Bool.not_eq_false] at hc) <;> first | (first | (exact absurd rfl hc) | (exfalso; omega) | (exact absurd (hc.symm.trans (by assumption : _ = false)) (by decide)) | (exact absurd (hc.symm.trans (by assumption : _ = true)) (by decide))) | skip)))
      | (first | refine JC.seq ?_ | refine JC.region ?_ | refine JC.block ?_ | refine JC.ret ?_ | refine JC.exit ?_ | refine JC.skip ?_ | refine thenK.nn ?_ | refine thenK.r ?_ | refine thenK.x ?_ | refine blockK.nn ?_ | refine blockK.r ?_ | refine blockK.hit rfl ?_ | refine JC.condT rfl ?_ | refine JC.condF rfl ?_ | (refine JC.cond rfl (fun hc => ?_) (fun hc => ?_) <;> ((try simp only [decide_eq_true_eq, decide_eq_false_iff_not, beq_iff_eq, beq_eq_false_iff_ne, bne_iff_ne, bne_eq_false_iff_eq, Bool.not_eq_true', Bool.not_eq_false', Bool.not_eq_true, Bool.not_eq_false] at hc) <;> first | (first | (exact absurd rfl hc) | (exfalso; omega) | (exact absurd (hc.symm.trans (by assumption : _ = false)) (by decide)) | (exact absurd (hc.symm.trans (by assumption : _ = true)) (by decide))) | skip)) | refine loopK.r ?_ | refine loopK.x ?_)
      | (fail)
      | fail
    all_goals first | (exfalso; omega) | skip
    all_goals (refine ret1f rfl rfl rfl (fun w1 hw => ⟨?_, hw.below⟩))
    rw [← hRk]; rfl
def allS : Nat → Nat × Nat
  | 0 => (0, 0)
  | k + 1 => withS (allS k) ((k : Int) + 1)
theorem okS_all : ∀ k, okS (allS k)
  | 0 => ⟨by decide, by decide⟩
  | k + 1 => okS_with (okS_all k) _
theorem has_all : ∀ (k : Nat) (u : Int), k ≤ 128 → (hasB (allS k) u = true ↔ 1 ≤ u ∧ u ≤ k)
  | 0, u, _ => by rw [allS, has_zero]; exact ⟨fun h => absurd h (by decide), fun h => absurd h (by omega)⟩
  | k + 1, u, hk => by rw [allS, has_with _ _ _ (by omega), has_all k u (by omega)]; omega
theorem eAllV : Entr Tryz.prog 14 := Entr.of Tryz.func14 rfl rfl
theorem all_any (k : Nat) (hk : k ≤ 128) (w : World) : Calls Tryz.prog 14 #[.int .i64 (k : Int)] w fun e w' => e = .returned (sv (allS k)) ∧ Below w.heap.size w w' := by
  refine calls_of_JC (R := []) Tryz.func14 Tryz.ntmps14 rfl rfl (Holds.nil _) ?_
  repeat' first
    | (refine J.isJ ?_; first | (fail) | (first | (refine J.o 0 ?_; refine J.ev' hΓ ?_) | refine J.nil ?_ | (refine J.o 4 ?_; first | refine J.lR hΓ ?_) | (refine J.o 3 ?_; first | refine J.ev' hΓ ?_) | (refine J.o 1 ?_; first | refine J.ad ?_) | (refine J.o 5 ?_; first | refine J.t0 hΓ ?_ | refine J.t1 hΓ ?_) | (refine J.o 7 ?_; refine J.al hΓ (fun _ => ?_)) | (refine J.o 10 ?_; refine J.ev' hΓ ?_) | (refine J.o 11 ?_; refine J.ev' hΓ ?_)))
    | (first | refine JC.seq ?_ | refine JC.region ?_ | refine JC.block ?_ | refine JC.ret ?_ | refine JC.exit ?_ | refine JC.skip ?_ | refine thenK.nn ?_ | refine thenK.x ?_ | refine blockK.nn ?_ | refine blockK.hit rfl ?_ | (refine JC.cond rfl (fun hc => ?_) (fun hc => ?_) <;> ((try simp only [decide_eq_true_eq, decide_eq_false_iff_not, beq_iff_eq, beq_eq_false_iff_ne, bne_iff_ne, bne_eq_false_iff_eq, Bool.not_eq_true', Bool.not_eq_false', Bool.not_eq_true, Bool.not_eq_false] at hc) <;> first | (first | (exact absurd rfl hc) | (exfalso; omega) | (exact absurd (hc.symm.trans (by assumption : _ = false)) (by decide)) | (exact absurd (hc.symm.trans (by assumption : _ = true)) (by decide))) | skip)) | refine loopK.x ?_)
    | (fail)
    | fail
  all_goals first | (exfalso; omega) | skip
  rename_i b2 b3
  refine JC.loop (fun i => Nat.ble 4 i) (fun m g L => ∃ j : Nat, g 4 = .int .i64 ((j : Int) + 1) ∧ j + m = k ∧ L = [[(b3, .cells ⟨[.int .u64 ((allS j).1 : Int), .int .u64 ((allS j).2 : Int)]⟩ 44 (0, 0))], [(b2, .cells ⟨[.int .u64 0, .int .u64 0]⟩ 44 (0, 0))]]) k ⟨0, rfl, by omega, rfl⟩ ?_
  rintro m g L ⟨j, e4, hjm, rfl⟩
  refine JC.pin 4 e4 ?_
  clear e4
  have hmin : min (k : Int) 128 = k := by omega
  rcases Nat.lt_or_ge j k with hj | hj
  ·
    repeat' first
      | (refine J.isJ ?_; first | ((refine J.fc 43 ?_; refine J.call0 eWith rfl rfl (fun w hw => with_any (allS j) (okS_all j) ((j : Int) + 1) w) ?_)) | (first | (refine J.o 0 ?_; refine J.ev' hΓ ?_) | refine J.nil ?_ | (refine J.o 4 ?_; first | refine J.lR hΓ ?_) | (refine J.o 3 ?_; first | refine J.ev' hΓ ?_) | (refine J.o 1 ?_; first | refine J.ad ?_) | (refine J.o 5 ?_; first | refine J.t0 hΓ ?_ | refine J.t1 hΓ ?_) | (refine J.o 7 ?_; refine J.al hΓ (fun _ => ?_)) | (refine J.o 10 ?_; refine J.ev' hΓ ?_) | (refine J.o 11 ?_; refine J.ev' hΓ ?_)))
      | (first | refine JC.seq ?_ | refine JC.region ?_ | refine JC.block ?_ | refine JC.ret ?_ | refine JC.exit ?_ | refine JC.skip ?_ | refine thenK.nn ?_ | refine thenK.x ?_ | refine blockK.nn ?_ | refine blockK.hit rfl ?_ | (refine JC.cond rfl (fun hc => ?_) (fun hc => ?_) <;> ((try simp only [decide_eq_true_eq, decide_eq_false_iff_not, beq_iff_eq, beq_eq_false_iff_ne, bne_iff_ne, bne_eq_false_iff_eq, Bool.not_eq_true', Bool.not_eq_false', Bool.not_eq_true, Bool.not_eq_false] at hc) <;> first | (first | (exact absurd rfl hc) | (exfalso; omega) | (exact absurd (hc.symm.trans (by assumption : _ = false)) (by decide)) | (exact absurd (hc.symm.trans (by assumption : _ = true)) (by decide))) | skip)) | refine loopK.x ?_)
      | (fail)
      | fail
    all_goals first | (exfalso; omega) | skip
    refine loopK.nn (m - 1) (by omega) (by repeat (first | refine Ag.upd rfl ?_ | exact Ag.hv)) ⟨j + 1, ?_, by omega, rfl⟩
    show Value.int .i64 _ = _; congr 1
  · obtain rfl : j = k := by omega
    repeat' first
      | (refine J.isJ ?_; first | (fail) | (first | (refine J.o 0 ?_; refine J.ev' hΓ ?_) | refine J.nil ?_ | (refine J.o 4 ?_; first | refine J.lR hΓ ?_) | (refine J.o 3 ?_; first | refine J.ev' hΓ ?_) | (refine J.o 1 ?_; first | refine J.ad ?_) | (refine J.o 5 ?_; first | refine J.t0 hΓ ?_ | refine J.t1 hΓ ?_) | (refine J.o 7 ?_; refine J.al hΓ (fun _ => ?_)) | (refine J.o 10 ?_; refine J.ev' hΓ ?_) | (refine J.o 11 ?_; refine J.ev' hΓ ?_)))
      | (first | refine JC.seq ?_ | refine JC.region ?_ | refine JC.block ?_ | refine JC.ret ?_ | refine JC.exit ?_ | refine JC.skip ?_ | refine thenK.nn ?_ | refine thenK.x ?_ | refine blockK.nn ?_ | refine blockK.hit rfl ?_ | (refine JC.cond rfl (fun hc => ?_) (fun hc => ?_) <;> ((try simp only [decide_eq_true_eq, decide_eq_false_iff_not, beq_iff_eq, beq_eq_false_iff_ne, bne_iff_ne, bne_eq_false_iff_eq, Bool.not_eq_true', Bool.not_eq_false', Bool.not_eq_true, Bool.not_eq_false] at hc) <;> first | (first | (exact absurd rfl hc) | (exfalso; omega) | (exact absurd (hc.symm.trans (by assumption : _ = false)) (by decide)) | (exact absurd (hc.symm.trans (by assumption : _ = true)) (by decide))) | skip)) | refine loopK.x ?_)
      | (fail)
      | fail
    all_goals first | (exfalso; omega) | skip
    all_goals (refine retC hΓ rfl rfl rfl (by first | exact Rd.hd | exact Rd.hd.tl) rfl (fun w1 hw => ⟨rfl, hw.below⟩))
section
variable {P : Program} {n : Nat} {w0 : World} {R : Heap} {l0 : List Oper} {K : Exit → Fr → List Heap → Prop} {f : Fr} {L : List Heap} {rest : List (Nat × Oper)} {κ : Nat}
variable {Γ : List (Nat × TI)} {d : Nat} {ty : TypeId} {pos : String} {aft : Array Edge} {g : Option (Nat × Bool)}
theorem J.eA {u t e : TypeId} {x y : Operand} {a b : Nat × Nat} {s1 b1 b2 : Nat} {z1 z2 : Option Value} (hΓ : Fits P Γ) (k : J P n w0 R l0 K rest (upd f d (.bool (decide (a = b)))) L) (hg : wantB n f l0 ⟨some d, .binOp .eql t x y u, ty, pos, aft, g⟩ = true := by exact rfl) (hx : Cx.ev n f x = sv a := by exact rfl) (hy : Cx.ev n f y = sv b := by exact rfl)
    (ht : Go.Cx.look Γ t = some ⟨.array 2 e, s1, z1, b1⟩ := by exact rfl) (he : Go.Cx.look Γ e = some ⟨.int .u64, 1, z2, b2⟩ := by exact rfl) (h1 : P.eqGuardType P.depth t = false := by kernel_rfl) : J P n w0 R l0 K ((κ, ⟨some d, .binOp .eql t x y u, ty, pos, aft, g⟩) :: rest) f L :=
  J.p hg (fun w => by
    have hu := (hΓ t _ ht).1
    obtain ⟨hue, ie, hie, hse, hze, hbe⟩ := hΓ e _ he
    have hc : P.cellsOf e = 1 := by unfold Program.cellsOf; rw [hie]; exact hse
    have hp : ∀ (s : Nat × Nat) (i : Nat) (v : Value), [Value.int .u64 (s.1 : Int), .int .u64 (s.2 : Int)][i]? = some v → frc v = some v → (part e (#[Value.int .u64 (s.1 : Int), .int .u64 (s.2 : Int)]) (i * 1)).run P w = .ok v w := fun s i v hv hf => by
      refine partEv_ok hΓ (cs := [Value.int .u64 (s.1 : Int), .int .u64 (s.2 : Int)]) ?_ w
      unfold partEv
      rw [he]
      simp only [Nat.mul_one, hv]
      exact hf
    have hr : (Op.equalIn 10000 t (sv a) (sv b)).run P w = .ok (decide (a = b)) w := by
      unfold sv
      rw [run_equalIn_array w 9999 _ _ hu hie, hc]
      show (Op.eqItems 9999 e 1 _ _ [0, 1]).run P w = _
      simp only [Op.eqItems, Sem.run_bind]
      rw [hp a 0 (.int .u64 (a.1 : Int)) rfl rfl, Result.andThen_ok, hp b 0 (.int .u64 (b.1 : Int)) rfl rfl, Result.andThen_ok, run_equalIn_int w 9998 e .u64 .u64 _ _ hue, Result.andThen_ok]
      by_cases e1 : a.1 = b.1
      · have e2 : ((a.1 : Int) == (b.1 : Int)) = true := by simp [e1]
        rw [e2]
        simp only [Bool.not_true, Bool.false_eq_true, if_false, Sem.run_bind]
        rw [hp a 1 (.int .u64 (a.2 : Int)) rfl rfl, Result.andThen_ok, hp b 1 (.int .u64 (b.2 : Int)) rfl rfl, Result.andThen_ok, run_equalIn_int w 9998 e .u64 .u64 _ _ hue, Result.andThen_ok]
        by_cases e3 : a.2 = b.2
        · have e4 : ((a.2 : Int) == (b.2 : Int)) = true := by simp [e3]
          rw [e4, decide_eq_true (Prod.ext e1 e3)]
          rfl
        · have e4 : ((a.2 : Int) == (b.2 : Int)) = false := by simp; omega
          rw [e4, decide_eq_false (fun h => e3 (by rw [h]))]
          rfl
      · have e2 : ((a.1 : Int) == (b.1 : Int)) = false := by simp; omega
        rw [e2, decide_eq_false (fun h => e1 (by rw [h]))]
        rfl
    unfold sv at hr
    simp only [execOp, hx, hy, sv, Sem.run_bind]
    rw [run_eqGuard_agg w .eql t x y _ _ h1]
    simp only [Result.andThen_ok]
    rw [run_eql_struct, hr]
    rfl) k
theorem J.nA {u t e : TypeId} {x y : Operand} {a b : Nat × Nat} {s1 b1 b2 : Nat} {z1 z2 : Option Value} (hΓ : Fits P Γ) (k : J P n w0 R l0 K rest (upd f d (.bool (!decide (a = b)))) L) (hg : wantB n f l0 ⟨some d, .binOp .neq t x y u, ty, pos, aft, g⟩ = true := by exact rfl) (hx : Cx.ev n f x = sv a := by exact rfl) (hy : Cx.ev n f y = sv b := by exact rfl)
    (ht : Go.Cx.look Γ t = some ⟨.array 2 e, s1, z1, b1⟩ := by exact rfl) (he : Go.Cx.look Γ e = some ⟨.int .u64, 1, z2, b2⟩ := by exact rfl) (h1 : P.eqGuardType P.depth t = false := by kernel_rfl) : J P n w0 R l0 K ((κ, ⟨some d, .binOp .neq t x y u, ty, pos, aft, g⟩) :: rest) f L :=
  J.p hg (fun w => by
    have hu := (hΓ t _ ht).1
    obtain ⟨hue, ie, hie, hse, hze, hbe⟩ := hΓ e _ he
    have hc : P.cellsOf e = 1 := by unfold Program.cellsOf; rw [hie]; exact hse
    have hp : ∀ (s : Nat × Nat) (i : Nat) (v : Value), [Value.int .u64 (s.1 : Int), .int .u64 (s.2 : Int)][i]? = some v → frc v = some v → (part e (#[Value.int .u64 (s.1 : Int), .int .u64 (s.2 : Int)]) (i * 1)).run P w = .ok v w := fun s i v hv hf => by
      refine partEv_ok hΓ (cs := [Value.int .u64 (s.1 : Int), .int .u64 (s.2 : Int)]) ?_ w
      unfold partEv
      rw [he]
      simp only [Nat.mul_one, hv]
      exact hf
    have hr : (Op.equalIn 10000 t (sv a) (sv b)).run P w = .ok (decide (a = b)) w := by
      unfold sv
      rw [run_equalIn_array w 9999 _ _ hu hie, hc]
      show (Op.eqItems 9999 e 1 _ _ [0, 1]).run P w = _
      simp only [Op.eqItems, Sem.run_bind]
      rw [hp a 0 (.int .u64 (a.1 : Int)) rfl rfl, Result.andThen_ok, hp b 0 (.int .u64 (b.1 : Int)) rfl rfl, Result.andThen_ok, run_equalIn_int w 9998 e .u64 .u64 _ _ hue, Result.andThen_ok]
      by_cases e1 : a.1 = b.1
      · have e2 : ((a.1 : Int) == (b.1 : Int)) = true := by simp [e1]
        rw [e2]
        simp only [Bool.not_true, Bool.false_eq_true, if_false, Sem.run_bind]
        rw [hp a 1 (.int .u64 (a.2 : Int)) rfl rfl, Result.andThen_ok, hp b 1 (.int .u64 (b.2 : Int)) rfl rfl, Result.andThen_ok, run_equalIn_int w 9998 e .u64 .u64 _ _ hue, Result.andThen_ok]
        by_cases e3 : a.2 = b.2
        · have e4 : ((a.2 : Int) == (b.2 : Int)) = true := by simp [e3]
          rw [e4, decide_eq_true (Prod.ext e1 e3)]
          rfl
        · have e4 : ((a.2 : Int) == (b.2 : Int)) = false := by simp; omega
          rw [e4, decide_eq_false (fun h => e3 (by rw [h]))]
          rfl
      · have e2 : ((a.1 : Int) == (b.1 : Int)) = false := by simp; omega
        rw [e2, decide_eq_false (fun h => e1 (by rw [h]))]
        rfl
    unfold sv at hr
    simp only [execOp, hx, hy, sv, Sem.run_bind]
    rw [run_eqGuard_agg w .neq t x y _ _ h1]
    simp only [Result.andThen_ok]
    rw [run_neq_struct, hr]
    rfl) k
end
end Go.Proofs.YtbhgahjeocnfcaaGreat
namespace Go.Proofs.YtbhgahjeocnfcaaGreat
open Go Go.Cx
set_option linter.unusedVariables false
set_option linter.unusedSimpArgs false
def iteF (n : Nat) (ns : List N3) (x : T3) : (Nat → Bool) → Bool := fun α => if fn n ns x.a α then fn n ns x.b α else fn n ns x.c α
theorem iteF_ext {n : Nat} {ns ms : List N3} (w : WF n ns) (e : Ext ns ms) {x : T3} (hx : x.lt ns.length) : iteF n ms x = iteF n ns x := by
  funext α
  unfold iteF
  rw [fn_ext w e hx.1, fn_ext w e hx.2.1, fn_ext w e hx.2.2]
theorem part_up {n : Nat} {ns : List N3} (w : WF n ns) {a k : Nat} (b : Bool) (ha : a < ns.length) (hk : k < n) (hp : k ≤ (nd ns a).p) (α : Nat → Bool) : fn n ns (partN ns a k b) α = fn n ns a (up α k b) := by
  have h := part_fn w (up α k b) ha hk
  rw [up_eq] at h
  rw [← h, fn_up w α b (part_lt w b ha hk) (part_p w b ha hk hp)]
theorem iteF_part {n : Nat} {ns : List N3} (w : WF n ns) {x : T3} {k : Nat} (b : Bool) (hx : x.lt ns.length) (hk : k < n) (hf : x.from ns k) : iteF n ns (partT ns x k b) = fun α => iteF n ns x (up α k b) := by
  funext α
  unfold iteF partT
  dsimp only
  rw [part_up w b hx.1 hk hf.1, part_up w b hx.2.1 hk hf.2.1, part_up w b hx.2.2 hk hf.2.2]
theorem iteF_dep {n : Nat} {ns : List N3} (w : WF n ns) {x : T3} {k : Nat} (hx : x.lt ns.length) (hf : x.from ns k) {j : Nat} (hj : j < k) (b : Bool) (α : Nat → Bool) : iteF n ns x (up α j b) = iteF n ns x α := by
  unfold iteF
  rw [fn_up w α b hx.1 (Nat.lt_of_lt_of_le hj hf.1), fn_up w α b hx.2.1 (Nat.lt_of_lt_of_le hj hf.2.1), fn_up w α b hx.2.2 (Nat.lt_of_lt_of_le hj hf.2.2)]
def Cst (f : (Nat → Bool) → Bool) : Prop := ∀ α β, f α = f β
structure Lev (n : Nat) (Φ : Nat → List ((Nat → Bool) → Bool)) (c : Nat) : Prop where
  dep : ∀ j f, f ∈ Φ j → ∀ k b α, k < j → f (up α k b) = f α
  step : ∀ j f b, j < n → f ∈ Φ j → Cst (fun α => f (up α j b)) ∨ ∃ i, j < i ∧ i ≤ n ∧ (fun α => f (up α j b)) ∈ Φ i
  sz : ((List.range (n + 1)).flatMap Φ).length ≤ c
def InL (n : Nat) (Φ : Nat → List ((Nat → Bool) → Bool)) (k : Nat) (f : (Nat → Bool) → Bool) : Prop := Cst f ∨ ∃ j, k ≤ j ∧ j ≤ n ∧ f ∈ Φ j
theorem InL.step {n c : Nat} {Φ : Nat → List ((Nat → Bool) → Bool)} (v : Lev n Φ c) {k : Nat} {f : (Nat → Bool) → Bool} (hk : k < n) (b : Bool) (h : InL n Φ k f) : InL n Φ (k + 1) (fun α => f (up α k b)) := by
  rcases h with h | ⟨j, h1, h2, h3⟩
  · exact .inl fun α β => h _ _
  · rcases Nat.lt_or_ge k j with hlt | hge
    · have e : (fun α => f (up α k b)) = f := funext fun α => v.dep j f h3 k b α hlt
      rw [e]
      exact .inr ⟨j, hlt, h2, h3⟩
    · obtain rfl : j = k := by omega
      rcases v.step j f b hk h3 with g | ⟨i, g1, g2, g3⟩
      · exact .inl g
      · exact .inr ⟨i, g1, g2, g3⟩
theorem InL.skip {n c : Nat} {Φ : Nat → List ((Nat → Bool) → Bool)} (v : Lev n Φ c) {f : (Nat → Bool) → Bool} : ∀ (m k : Nat), k + m ≤ n → (∀ j, j < k + m → ∀ b α, f (up α j b) = f α) → InL n Φ k f → InL n Φ (k + m) f
  | 0, _, _, _, h => h
  | m + 1, k, hn, hd, h => by
    have e : (fun α => f (up α k false)) = f := funext fun α => hd k (by omega) false α
    have := InL.step v (by omega) false h
    rw [e] at this
    have := InL.skip v m (k + 1) (by omega) (fun j hj => hd j (by omega)) this
    rwa [show k + 1 + m = k + (m + 1) by omega] at this
def InG (n : Nat) (Φ : Nat → List ((Nat → Bool) → Bool)) (ns : List N3) (s0 : Nat) : Prop := ∀ j, s0 ≤ j → j < ns.length → InL n Φ 0 (fn n ns j)
theorem nodup_le {α : Type} : ∀ (l m : List α), l.Nodup → (∀ x ∈ l, x ∈ m) → l.length ≤ m.length
  | [], m, _, _ => Nat.zero_le _
  | x :: l, m, hn, hs => by
    obtain ⟨h1, h2⟩ := List.nodup_cons.1 hn
    obtain ⟨a, b, rfl⟩ := List.append_of_mem (hs x List.mem_cons_self)
    have := nodup_le l (a ++ b) h2 fun y hy => by
      have := hs y (List.mem_cons_of_mem _ hy)
      rcases List.mem_append.1 this with g | g
      · exact List.mem_append_left _ g
      · rcases List.mem_cons.1 g with rfl | g
        · exact absurd hy h1
        · exact List.mem_append_right _ g
    rw [List.length_append] at this
    rw [List.length_append, List.length_cons, List.length_cons]
    omega
theorem fn_noncst {n : Nat} {ns : List N3} (w : WF n ns) {j : Nat} (h2 : 2 ≤ j) (hj : j < ns.length) : ¬ Cst (fn n ns j) := fun h => by
  have two := w.two
  cases hb : fn n ns j (fun _ => false) with
  | false =>
    have := w.eq hj (show 0 < ns.length by omega) fun α => by rw [h α (fun _ => false), hb, fn_0 w]
    omega
  | true =>
    have := w.eq hj (show 1 < ns.length by omega) fun α => by rw [h α (fun _ => false), hb, fn_1 w]
    omega
theorem InG.len {n c : Nat} {Φ : Nat → List ((Nat → Bool) → Bool)} (v : Lev n Φ c) {ns : List N3} (w : WF n ns) {s0 : Nat} (h2 : 2 ≤ s0) (h : InG n Φ ns s0) : ns.length ≤ s0 + c := by
  rcases Nat.lt_or_ge ns.length s0 with hlt | hge
  · omega
  · have hn : ((List.range (ns.length - s0)).map fun i => fn n ns (s0 + i)).Nodup := by
      rw [List.Nodup, List.pairwise_map]
      refine List.Pairwise.imp_of_mem (fun {a b} ha hb hab e => hab ?_) (List.nodup_range (n := ns.length - s0))
      rw [List.mem_range] at ha hb
      have := w.eq (i := s0 + a) (j := s0 + b) (by omega) (by omega) fun α => congrFun e α
      omega
    have hs : ∀ x ∈ ((List.range (ns.length - s0)).map fun i => fn n ns (s0 + i)), x ∈ (List.range (n + 1)).flatMap Φ := fun x hx => by
      obtain ⟨i, hi, rfl⟩ := List.mem_map.1 hx
      rw [List.mem_range] at hi
      rcases h (s0 + i) (by omega) (by omega) with g | ⟨j, _, g2, g3⟩
      · exact absurd g (fn_noncst w (by omega) (by omega))
      · exact List.mem_flatMap.2 ⟨j, List.mem_range.2 (by omega), g3⟩
    have := nodup_le _ _ hn hs
    have hsz := v.sz
    rw [List.length_map, List.length_range] at this
    omega
theorem InG.start (n : Nat) (Φ : Nat → List ((Nat → Bool) → Bool)) (ns : List N3) : InG n Φ ns ns.length := fun j h1 h2 => by omega
theorem InG.ext {n : Nat} {Φ : Nat → List ((Nat → Bool) → Bool)} {ns ms : List N3} (w : WF n ns) (e : Ext ns ms) {s0 y : Nat} (h : InG n Φ ns s0) (hn : ms.length = ns.length ∨ (y = ns.length ∧ ms.length ≤ ns.length + 1)) (hy : InL n Φ 0 (fn n ms y)) : InG n Φ ms s0 := fun j h1 h2 => by
  rcases Nat.lt_or_ge j ns.length with g | g
  · have : fn n ms j = fn n ns j := funext fun α => fn_ext w e g α
    rw [this]
    exact h j h1 g
  · rcases hn with hn | ⟨rfl, hn⟩
    · omega
    · obtain rfl : j = ns.length := by omega
      exact hy
end Go.Proofs.YtbhgahjeocnfcaaGreat
namespace Go.Proofs.YtbhgahjeocnfcaaGreat
open Go Go.Cx Go.RowKit
set_option linter.unusedVariables false
set_option linter.unusedSimpArgs false
set_option maxHeartbeats 4000000
attribute [local irreducible] J JC thenK blockK loopK roundK drawK retK QW Qt pel List.set Calls
open Go.Maps
set_option maxRecDepth 8000
attribute [local irreducible] JE Br eK0 eK3 brK
theorem chL_any (n : Nat) (K : KS) (b c1 c2 : Nat) {c s0 : Nat} {Φ : Nat → List ((Nat → Bool) → Bool)} (lv : Lev n Φ c) (h20 : 2 ≤ s0) (hc : s0 + c < 1048576) : ∀ (m k : Nat) (s : SS) (x : T3), n - k = m → SOk n K s → x.lt s.ns.length → x.from s.ns k → s0 ≤ s.ns.length → InG n Φ s.ns s0 → InL n Φ k (iteF n s.ns x) →
    ∀ {w0 w : World} {R : Heap} {L : List Heap}, H w0 R (sF K b s ++ L) w → Rd R L c1 (ptrS b) → Rd R L c2 (fnC c1 c2) →
    Calls Tryz.prog 59 #[ekT x, .pointer (some ⟨c1, 0, none⟩), .pointer (some ⟨c2, 0, none⟩)] w fun e w' => ∃ v L', e = .returned v ∧ H w0 R L' w' ∧ ∃ s' y, v = .int .i64 ((y : Nat) : Int) ∧ L' = sF K b s' ++ L ∧ Adds n K s s' 1048576 y ∧ Ite n s'.ns x y ∧ InG n Φ s'.ns s0 := by
  intro m
  induction m using Nat.strongRecOn with
  | ind m ih =>
  intro k s x hm so hx hf hs0 hin hG w0 w R L hw r1 r2
  have n8 := so.n8
  have hno := so.no
  have sm := so.sm
  have hwf := so.wf
  have hx1 := hx.1
  have hx2 := hx.2.1
  have hx3 := hx.2.2
  have two := hwf.two
  have adz : ∀ y, y < s.ns.length → Adds n K s s 1048576 y := fun y hy => ⟨so, Ext.refl _, by omega, hy⟩
  by_cases hA : x.a = 1 ∨ x.b = x.c
  · unfold sF at hw
    simp only [List.cons_append, List.nil_append] at hw
    rcases hA with hA1 | hA1
    all_goals
      refine calls_in Tryz.func59 Tryz.ntmps59 rfl rfl (hw) ?_
      unfold stO ekT
      repeat' first
        | (refine J.isJ ?_; first | (first | (refine J.o 0 ?_; refine J.ev' hΓ ?_) | refine J.nil ?_ | refine J.kd ?_ | (refine J.o 4 ?_; first | refine J.lT default hΓ ?_ | refine J.lR hΓ ?_) | (refine J.o 3 ?_; first | refine J.iA hΓ ?_ | refine J.iJ hΓ ?_ | refine J.fP hΓ ?_ | refine J.ev' hΓ ?_) | (refine J.o 1 ?_; first | refine J.ad ?_) | (refine J.o 5 ?_; first | refine J.t0 hΓ ?_ | refine J.t1 hΓ ?_) | (refine J.o 6 ?_; refine J.bx (fun _ => ?_)) | (refine J.o 7 ?_; refine J.al hΓ (fun _ => ?_)) | (refine J.o 10 ?_; refine J.ev' hΓ ?_) | (refine J.o 11 ?_; refine J.ev' hΓ ?_)) | ((fail_if_success refine J.wt ?_); refine J.gc rfl rfl (fun hc => ?_) (fun hc => ?_) <;> ((try simp only [decide_eq_true_eq, decide_eq_false_iff_not, beq_iff_eq, beq_eq_false_iff_ne, bne_iff_ne, bne_eq_false_iff_eq, Bool.not_eq_true', Bool.not_eq_false', Bool.not_eq_true, Bool.not_eq_false] at hc) <;> first | (first | (exact absurd rfl hc) | (exfalso; omega) | (exact absurd (hc.symm.trans (by assumption : _ = false)) (by decide)) | (exact absurd (hc.symm.trans (by assumption : _ = true)) (by decide))) | skip)))
        | (first | refine JC.seq ?_ | refine JC.region ?_ | refine JC.block ?_ | refine JC.ret ?_ | refine JC.exit ?_ | refine JC.skip ?_ | refine thenK.nn ?_ | refine thenK.r ?_ | refine thenK.x ?_ | refine blockK.nn ?_ | refine blockK.r ?_ | refine blockK.hit rfl ?_ | refine JC.condT rfl ?_ | refine JC.condF rfl ?_ | (refine JC.cond rfl (fun hc => ?_) (fun hc => ?_) <;> ((try simp only [decide_eq_true_eq, decide_eq_false_iff_not, beq_iff_eq, beq_eq_false_iff_ne, bne_iff_ne, bne_eq_false_iff_eq, Bool.not_eq_true', Bool.not_eq_false', Bool.not_eq_true, Bool.not_eq_false] at hc) <;> first | (first | (exact absurd rfl hc) | (exfalso; omega) | (exact absurd (hc.symm.trans (by assumption : _ = false)) (by decide)) | (exact absurd (hc.symm.trans (by assumption : _ = true)) (by decide))) | skip)) | refine drawK.nn ?_ | refine loopK.x ?_)
        | (fail)
        | fail
      all_goals first | (exfalso; omega) | skip
      all_goals (refine ret1f rfl rfl rfl (fun w1 hw => ⟨_, _, rfl, hw.drop, s, x.b, rfl, rfl, adz _ hx2, Ite.t1 hwf hx ?_, hin⟩))
      all_goals first | exact .inl hA1 | exact .inr hA1
  by_cases hB : x.a = 0
  · unfold sF at hw
    simp only [List.cons_append, List.nil_append] at hw
    refine calls_in Tryz.func59 Tryz.ntmps59 rfl rfl (hw) ?_
    unfold stO ekT
    repeat' first
      | (refine J.isJ ?_; first | (first | (refine J.o 0 ?_; refine J.ev' hΓ ?_) | refine J.nil ?_ | refine J.kd ?_ | (refine J.o 4 ?_; first | refine J.lT default hΓ ?_ | refine J.lR hΓ ?_) | (refine J.o 3 ?_; first | refine J.iA hΓ ?_ | refine J.iJ hΓ ?_ | refine J.fP hΓ ?_ | refine J.ev' hΓ ?_) | (refine J.o 1 ?_; first | refine J.ad ?_) | (refine J.o 5 ?_; first | refine J.t0 hΓ ?_ | refine J.t1 hΓ ?_) | (refine J.o 6 ?_; refine J.bx (fun _ => ?_)) | (refine J.o 7 ?_; refine J.al hΓ (fun _ => ?_)) | (refine J.o 10 ?_; refine J.ev' hΓ ?_) | (refine J.o 11 ?_; refine J.ev' hΓ ?_)) | ((fail_if_success refine J.wt ?_); refine J.gc rfl rfl (fun hc => ?_) (fun hc => ?_) <;> ((try simp only [decide_eq_true_eq, decide_eq_false_iff_not, beq_iff_eq, beq_eq_false_iff_ne, bne_iff_ne, bne_eq_false_iff_eq, Bool.not_eq_true', Bool.not_eq_false', Bool.not_eq_true, Bool.not_eq_false] at hc) <;> first | (first | (exact absurd rfl hc) | (exfalso; omega) | (exact absurd (hc.symm.trans (by assumption : _ = false)) (by decide)) | (exact absurd (hc.symm.trans (by assumption : _ = true)) (by decide))) | skip)))
      | (first | refine JC.seq ?_ | refine JC.region ?_ | refine JC.block ?_ | refine JC.ret ?_ | refine JC.exit ?_ | refine JC.skip ?_ | refine thenK.nn ?_ | refine thenK.r ?_ | refine thenK.x ?_ | refine blockK.nn ?_ | refine blockK.r ?_ | refine blockK.hit rfl ?_ | refine JC.condT rfl ?_ | refine JC.condF rfl ?_ | (refine JC.cond rfl (fun hc => ?_) (fun hc => ?_) <;> ((try simp only [decide_eq_true_eq, decide_eq_false_iff_not, beq_iff_eq, beq_eq_false_iff_ne, bne_iff_ne, bne_eq_false_iff_eq, Bool.not_eq_true', Bool.not_eq_false', Bool.not_eq_true, Bool.not_eq_false] at hc) <;> first | (first | (exact absurd rfl hc) | (exfalso; omega) | (exact absurd (hc.symm.trans (by assumption : _ = false)) (by decide)) | (exact absurd (hc.symm.trans (by assumption : _ = true)) (by decide))) | skip)) | refine drawK.nn ?_ | refine loopK.x ?_)
      | (fail)
      | fail
    all_goals first | (exfalso; omega) | skip
    all_goals (refine ret1f rfl rfl rfl (fun w1 hw => ⟨_, _, rfl, hw.drop, s, x.c, rfl, rfl, adz _ hx3, Ite.t2 hwf hx hB, hin⟩))
  by_cases hC : x.b = 1 ∧ x.c = 0
  · unfold sF at hw
    simp only [List.cons_append, List.nil_append] at hw
    refine calls_in Tryz.func59 Tryz.ntmps59 rfl rfl (hw) ?_
    unfold stO ekT
    repeat' first
      | (refine J.isJ ?_; first | (first | (refine J.o 0 ?_; refine J.ev' hΓ ?_) | refine J.nil ?_ | refine J.kd ?_ | (refine J.o 4 ?_; first | refine J.lT default hΓ ?_ | refine J.lR hΓ ?_) | (refine J.o 3 ?_; first | refine J.iA hΓ ?_ | refine J.iJ hΓ ?_ | refine J.fP hΓ ?_ | refine J.ev' hΓ ?_) | (refine J.o 1 ?_; first | refine J.ad ?_) | (refine J.o 5 ?_; first | refine J.t0 hΓ ?_ | refine J.t1 hΓ ?_) | (refine J.o 6 ?_; refine J.bx (fun _ => ?_)) | (refine J.o 7 ?_; refine J.al hΓ (fun _ => ?_)) | (refine J.o 10 ?_; refine J.ev' hΓ ?_) | (refine J.o 11 ?_; refine J.ev' hΓ ?_)) | ((fail_if_success refine J.wt ?_); refine J.gc rfl rfl (fun hc => ?_) (fun hc => ?_) <;> ((try simp only [decide_eq_true_eq, decide_eq_false_iff_not, beq_iff_eq, beq_eq_false_iff_ne, bne_iff_ne, bne_eq_false_iff_eq, Bool.not_eq_true', Bool.not_eq_false', Bool.not_eq_true, Bool.not_eq_false] at hc) <;> first | (first | (exact absurd rfl hc) | (exfalso; omega) | (exact absurd (hc.symm.trans (by assumption : _ = false)) (by decide)) | (exact absurd (hc.symm.trans (by assumption : _ = true)) (by decide))) | skip)))
      | (first | refine JC.seq ?_ | refine JC.region ?_ | refine JC.block ?_ | refine JC.ret ?_ | refine JC.exit ?_ | refine JC.skip ?_ | refine thenK.nn ?_ | refine thenK.r ?_ | refine thenK.x ?_ | refine blockK.nn ?_ | refine blockK.r ?_ | refine blockK.hit rfl ?_ | refine JC.condT rfl ?_ | refine JC.condF rfl ?_ | (refine JC.cond rfl (fun hc => ?_) (fun hc => ?_) <;> ((try simp only [decide_eq_true_eq, decide_eq_false_iff_not, beq_iff_eq, beq_eq_false_iff_ne, bne_iff_ne, bne_eq_false_iff_eq, Bool.not_eq_true', Bool.not_eq_false', Bool.not_eq_true, Bool.not_eq_false] at hc) <;> first | (first | (exact absurd rfl hc) | (exfalso; omega) | (exact absurd (hc.symm.trans (by assumption : _ = false)) (by decide)) | (exact absurd (hc.symm.trans (by assumption : _ = true)) (by decide))) | skip)) | refine drawK.nn ?_ | refine loopK.x ?_)
      | (fail)
      | fail
    all_goals first | (exfalso; omega) | skip
    all_goals (refine ret1f rfl rfl rfl (fun w1 hw => ⟨_, _, rfl, hw.drop, s, x.a, rfl, rfl, adz _ hx1, Ite.t3 hwf hx hC.1 hC.2, hin⟩))
  have hkey := kT_key x ⟨by omega, by omega, by omega⟩
  have mm := so.mm
  have rc1 := r1
  unfold ptrS at rc1
  cases hget : mget s.m x with
  | some y =>
    obtain ⟨_, hite⟩ := so.mo x y (mget_mem hget)
    unfold sF at hw
    simp only [List.cons_append, List.nil_append] at hw
    refine calls_in Tryz.func59 Tryz.ntmps59 rfl rfl (hw) ?_
    unfold stO ekT
    repeat' first
      | (refine J.isJ ?_; first | (first | (refine J.o 4 ?_; refine J.lR hΓ ?_ (hr := rc1.tl.tl.tl.tl.tl)) | (refine J.o 9 ?_; refine J.lk (a := x) kT ekT_inj mm (by first | exact RdH.hd | exact RdH.hd.tl | exact RdH.hd.tl.tl | exact RdH.hd.tl.tl.tl | exact RdH.hd.tl.tl.tl.tl | exact RdH.hd.tl.tl.tl.tl.tl | exact RdH.hd.tl.tl.tl.tl.tl.tl | exact RdH.hd.tl.tl.tl.tl.tl.tl.tl | exact RdH.old (fun _ hh => hh) | assumption) hkey hΓ ?_; rw [hget])) | (first | (refine J.o 0 ?_; refine J.ev' hΓ ?_) | refine J.nil ?_ | refine J.kd ?_ | (refine J.o 4 ?_; first | refine J.lT default hΓ ?_ | refine J.lR hΓ ?_) | (refine J.o 3 ?_; first | refine J.iA hΓ ?_ | refine J.iJ hΓ ?_ | refine J.fP hΓ ?_ | refine J.ev' hΓ ?_) | (refine J.o 1 ?_; first | refine J.ad ?_) | (refine J.o 5 ?_; first | refine J.t0 hΓ ?_ | refine J.t1 hΓ ?_) | (refine J.o 6 ?_; refine J.bx (fun _ => ?_)) | (refine J.o 7 ?_; refine J.al hΓ (fun _ => ?_)) | (refine J.o 10 ?_; refine J.ev' hΓ ?_) | (refine J.o 11 ?_; refine J.ev' hΓ ?_)) | ((fail_if_success refine J.wt ?_); refine J.gc rfl rfl (fun hc => ?_) (fun hc => ?_) <;> ((try simp only [decide_eq_true_eq, decide_eq_false_iff_not, beq_iff_eq, beq_eq_false_iff_ne, bne_iff_ne, bne_eq_false_iff_eq, Bool.not_eq_true', Bool.not_eq_false', Bool.not_eq_true, Bool.not_eq_false] at hc) <;> first | (first | (exact absurd rfl hc) | (exfalso; omega) | (exact absurd (hc.symm.trans (by assumption : _ = false)) (by decide)) | (exact absurd (hc.symm.trans (by assumption : _ = true)) (by decide))) | skip)))
      | (first | refine JC.seq ?_ | refine JC.region ?_ | refine JC.block ?_ | refine JC.ret ?_ | refine JC.exit ?_ | refine JC.skip ?_ | refine thenK.nn ?_ | refine thenK.r ?_ | refine thenK.x ?_ | refine blockK.nn ?_ | refine blockK.r ?_ | refine blockK.hit rfl ?_ | refine JC.condT rfl ?_ | refine JC.condF rfl ?_ | (refine JC.cond rfl (fun hc => ?_) (fun hc => ?_) <;> ((try simp only [decide_eq_true_eq, decide_eq_false_iff_not, beq_iff_eq, beq_eq_false_iff_ne, bne_iff_ne, bne_eq_false_iff_eq, Bool.not_eq_true', Bool.not_eq_false', Bool.not_eq_true, Bool.not_eq_false] at hc) <;> first | (first | (exact absurd rfl hc) | (exfalso; omega) | (exact absurd (hc.symm.trans (by assumption : _ = false)) (by decide)) | (exact absurd (hc.symm.trans (by assumption : _ = true)) (by decide))) | skip)) | refine drawK.nn ?_ | refine loopK.x ?_)
      | ((refine JC.drawO [(1,0),(0,1),(0,2),(1,3),(1,4),(1,5),(0,6),(0,7),(0,8),(0,9),(0,10)] (by kernel_rfl) (by kernel_rfl) ?_))
      | fail
    all_goals first | (exfalso; omega) | skip
    all_goals (refine ret1f rfl rfl rfl (fun w1 hw => ⟨_, _, rfl, hw.drop, s, y, rfl, rfl, adz _ hite.lt, hite, hin⟩))
  | none =>
    have ha2 : 2 ≤ x.a := by omega
    have hpa := hwf.pl _ ha2 hx1
    have hm3 : mnP n s.ns x 3 = min (min (min n (nd s.ns x.a).p) (nd s.ns x.b).p) (nd s.ns x.c).p := rfl
    have hp1 : mnP n s.ns x 3 < n := by rw [hm3]; omega
    have hp2 : k ≤ mnP n s.ns x 3 := by have := hf.1; have := hf.2.1; have := hf.2.2; have := hwf.ple hx1; rw [hm3]; omega
    have hpf : x.from s.ns (mnP n s.ns x 3) := ⟨by rw [hm3]; omega, by rw [hm3]; omega, by rw [hm3]; omega⟩
    have xl := fun b => partT_lt hwf b hx hp1
    have xf := fun b => partT_from hwf b hx hp1 hpf
    have rc2 := r2
    unfold fnC at rc2
    have ow := so.ow
    have hsl := ow.sl
    have hGp : InL n Φ (mnP n s.ns x 3) (iteF n s.ns x) := by
      have := InL.skip lv (mnP n s.ns x 3 - k) k (by omega) (fun j hj b α => iteF_dep hwf hx hpf (by omega) b α) hG
      rwa [show k + (mnP n s.ns x 3 - k) = mnP n s.ns x 3 by omega] at this
    have hGb : ∀ b, InL n Φ (mnP n s.ns x 3 + 1) (iteF n s.ns (partT s.ns x (mnP n s.ns x 3) b)) := fun b => by
      rw [iteF_part hwf b hx hp1 hpf]; exact InL.step lv hp1 b hGp
    have hG0 : InL n Φ 0 (iteF n s.ns x) := by
      rcases hG with g | ⟨j, _, g2, g3⟩
      · exact .inl g
      · exact .inr ⟨j, Nat.zero_le _, g2, g3⟩
    have cPart : ∀ w1 L1, H w0 R L1 w1 → Rd R L1 b (stO K s.an s.ns.length s.cn) → RdH R L1 s.hN → ∀ a hi, a < s.ns.length → Calls Tryz.prog 51 #[.pointer (some ⟨b, 0, none⟩), .int .i64 (a : Int), .int .i64 ((mnP n s.ns x 3 : Nat) : Int), .bool hi] w1 fun e w' => e = .returned (.int .i64 (partN s.ns a (mnP n s.ns x 3) hi : Int)) ∧ Below w1.heap.size w1 w' :=
      fun w1 L1 h1 rb rn a hi ha => part_any K b s.an s.cn s.ns ((b, stO K s.an s.ns.length s.cn) :: s.hN) (hsl.sub fun y hy => List.mem_cons_of_mem _ hy) List.mem_cons_self a _ hi ha w1 (holds2 (h1.rd rb) (h1.rdH rn))
    unfold sF at hw
    simp only [List.cons_append, List.nil_append] at hw
    rcases Nat.decEq x.b 1 with hb1 | hb1
    all_goals
      refine calls_in Tryz.func59 Tryz.ntmps59 rfl rfl (hw) ?_
      unfold stO ekT
      repeat' first
        | (refine J.isJ ?_; first | (first | (refine J.o 6 ?_; refine J.bx (fun b3 => ?_)) | (refine J.o 4 ?_; refine J.lR hΓ ?_ (hr := rc1.tl.tl.tl.tl.tl)) | (refine J.o 9 ?_; refine J.lk (a := x) kT ekT_inj mm (by first | exact RdH.hd | exact RdH.hd.tl | exact RdH.hd.tl.tl | exact RdH.hd.tl.tl.tl | exact RdH.hd.tl.tl.tl.tl | exact RdH.hd.tl.tl.tl.tl.tl | exact RdH.hd.tl.tl.tl.tl.tl.tl | exact RdH.hd.tl.tl.tl.tl.tl.tl.tl | exact RdH.old (fun _ hh => hh) | assumption) hkey hΓ ?_; rw [hget])) | (first | (refine J.o 0 ?_; refine J.ev' hΓ ?_) | refine J.nil ?_ | refine J.kd ?_ | (refine J.o 4 ?_; first | refine J.lT default hΓ ?_ | refine J.lR hΓ ?_) | (refine J.o 3 ?_; first | refine J.iA hΓ ?_ | refine J.iJ hΓ ?_ | refine J.fP hΓ ?_ | refine J.ev' hΓ ?_) | (refine J.o 1 ?_; first | refine J.ad ?_) | (refine J.o 5 ?_; first | refine J.t0 hΓ ?_ | refine J.t1 hΓ ?_) | (refine J.o 6 ?_; refine J.bx (fun _ => ?_)) | (refine J.o 7 ?_; refine J.al hΓ (fun _ => ?_)) | (refine J.o 10 ?_; refine J.ev' hΓ ?_) | (refine J.o 11 ?_; refine J.ev' hΓ ?_)) | ((fail_if_success refine J.wt ?_); refine J.gc rfl rfl (fun hc => ?_) (fun hc => ?_) <;> ((try simp only [decide_eq_true_eq, decide_eq_false_iff_not, beq_iff_eq, beq_eq_false_iff_ne, bne_iff_ne, bne_eq_false_iff_eq, Bool.not_eq_true', Bool.not_eq_false', Bool.not_eq_true, Bool.not_eq_false] at hc) <;> first | (first | (exact absurd rfl hc) | (exfalso; omega) | (exact absurd (hc.symm.trans (by assumption : _ = false)) (by decide)) | (exact absurd (hc.symm.trans (by assumption : _ = true)) (by decide))) | skip)))
        | (first | refine JC.seq ?_ | refine JC.region ?_ | refine JC.block ?_ | refine JC.ret ?_ | refine JC.exit ?_ | refine JC.skip ?_ | refine thenK.nn ?_ | refine thenK.r ?_ | refine thenK.x ?_ | refine blockK.nn ?_ | refine blockK.r ?_ | refine blockK.hit rfl ?_ | refine JC.condT rfl ?_ | refine JC.condF rfl ?_ | (refine JC.cond rfl (fun hc => ?_) (fun hc => ?_) <;> ((try simp only [decide_eq_true_eq, decide_eq_false_iff_not, beq_iff_eq, beq_eq_false_iff_ne, bne_iff_ne, bne_eq_false_iff_eq, Bool.not_eq_true', Bool.not_eq_false', Bool.not_eq_true, Bool.not_eq_false] at hc) <;> first | (first | (exact absurd rfl hc) | (exfalso; omega) | (exact absurd (hc.symm.trans (by assumption : _ = false)) (by decide)) | (exact absurd (hc.symm.trans (by assumption : _ = true)) (by decide))) | skip)) | refine drawK.nn ?_ | refine loopK.x ?_)
        | ((refine JC.drawO [(1,0),(0,1),(0,2),(1,3),(1,4),(1,5),(0,6),(0,7),(0,8),(0,9),(0,10)] (by kernel_rfl) (by kernel_rfl) ?_))
        | fail
      all_goals first | (exfalso; omega) | skip
      refine JC.loop (fun i => i == 7 || i == 9 || Nat.ble 63 i) (fun m g L' => ∃ q, g 63 = .int .i64 ((q : Nat) : Int) ∧ q + m = 3 ∧ g 7 = .int .i64 ((mnP n s.ns x q : Nat) : Int) ∧ L' = [(b3, Obj.cells ⟨[.int .i64 (x.a : Int), .int .i64 (x.b : Int), .int .i64 (x.c : Int)]⟩ 104 (0, 0))] :: [(b, stO K s.an s.ns.length s.cn)] :: s.hN :: s.hU :: s.hM :: L) 3 ⟨0, rfl, rfl, congrArg (fun z : Nat => Value.int .i64 (z : Int)) hno, rfl⟩ ?_
      rintro m1 g1 L' ⟨q, e63, hq, e7, rfl⟩
      refine JC.pin 63 e63 ?_
      refine JC.pin 7 e7 ?_
      unfold stO
      rcases (by omega : q = 3 ∨ q = 0 ∨ q = 1 ∨ q = 2) with rfl | rfl | rfl | rfl
      ·
        repeat' first
          | (refine J.isJ ?_; first | (first | (refine J.o 7 ?_; first | refine J.al hΓ (fun b10 => ?_))) | (first | (refine J.o 0 ?_; refine J.ev' hΓ ?_) | refine J.nil ?_ | refine J.kd ?_ | (refine J.o 4 ?_; first | refine J.lT default hΓ ?_ | refine J.lR hΓ ?_) | (refine J.o 3 ?_; first | refine J.iA hΓ ?_ | refine J.iJ hΓ ?_ | refine J.fP hΓ ?_ | refine J.ev' hΓ ?_) | (refine J.o 1 ?_; first | refine J.ad ?_) | (refine J.o 5 ?_; first | refine J.t0 hΓ ?_ | refine J.t1 hΓ ?_) | (refine J.o 6 ?_; refine J.bx (fun _ => ?_)) | (refine J.o 7 ?_; refine J.al hΓ (fun _ => ?_)) | (refine J.o 10 ?_; refine J.ev' hΓ ?_) | (refine J.o 11 ?_; refine J.ev' hΓ ?_)) | ((fail_if_success refine J.wt ?_); refine J.gc rfl rfl (fun hc => ?_) (fun hc => ?_) <;> ((try simp only [decide_eq_true_eq, decide_eq_false_iff_not, beq_iff_eq, beq_eq_false_iff_ne, bne_iff_ne, bne_eq_false_iff_eq, Bool.not_eq_true', Bool.not_eq_false', Bool.not_eq_true, Bool.not_eq_false] at hc) <;> first | (first | (exact absurd rfl hc) | (exfalso; omega) | (exact absurd (hc.symm.trans (by assumption : _ = false)) (by decide)) | (exact absurd (hc.symm.trans (by assumption : _ = true)) (by decide))) | skip)))
          | (first | refine JC.seq ?_ | refine JC.region ?_ | refine JC.block ?_ | refine JC.ret ?_ | refine JC.exit ?_ | refine JC.skip ?_ | refine thenK.nn ?_ | refine thenK.r ?_ | refine thenK.x ?_ | refine blockK.nn ?_ | refine blockK.r ?_ | refine blockK.hit rfl ?_ | refine JC.condT rfl ?_ | refine JC.condF rfl ?_ | (refine JC.cond rfl (fun hc => ?_) (fun hc => ?_) <;> ((try simp only [decide_eq_true_eq, decide_eq_false_iff_not, beq_iff_eq, beq_eq_false_iff_ne, bne_iff_ne, bne_eq_false_iff_eq, Bool.not_eq_true', Bool.not_eq_false', Bool.not_eq_true, Bool.not_eq_false] at hc) <;> first | (first | (exact absurd rfl hc) | (exfalso; omega) | (exact absurd (hc.symm.trans (by assumption : _ = false)) (by decide)) | (exact absurd (hc.symm.trans (by assumption : _ = true)) (by decide))) | skip)) | refine drawK.nn ?_ | refine loopK.x ?_)
          | (fail)
          | fail
        all_goals first | (exfalso; omega) | skip
        rename_i bl
        refine JC.loop (fun i => i == 12 || i == 13 || Nat.ble 78 i) (fun m g L' => ∃ q, g 78 = .int .i64 ((q : Nat) : Int) ∧ q + m = 3 ∧ L' = [(b10, Obj.cells ⟨pcs s.ns x (mnP n s.ns x 3) true q⟩ 104 (0, 0))] :: [(bl, Obj.cells ⟨pcs s.ns x (mnP n s.ns x 3) false q⟩ 104 (0, 0))] :: [(b3, Obj.cells ⟨[.int .i64 (x.a : Int), .int .i64 (x.b : Int), .int .i64 (x.c : Int)]⟩ 104 (0, 0))] :: [(b, stO K s.an s.ns.length s.cn)] :: s.hN :: s.hU :: s.hM :: L) 3 ⟨0, rfl, rfl, rfl⟩ ?_
        rintro m2 g2 L' ⟨q, e78, hq2, rfl⟩
        refine JC.pin 78 e78 ?_
        unfold stO
        rcases (by omega : q = 3 ∨ q = 0 ∨ q = 1 ∨ q = 2) with rfl | rfl | rfl | rfl
        all_goals simp only [pcs]
        ·
          repeat' first
            | (refine J.isJ ?_; first | (first | (refine J.o 4 ?_; first | refine J.lR hΓ ?_ (hr := rc1.tl.tl.tl.tl.tl.tl.tl) | refine J.lR hΓ ?_ (hr := rc2.tl.tl.tl.tl.tl.tl.tl))) | (first | (refine J.o 0 ?_; refine J.ev' hΓ ?_) | refine J.nil ?_ | refine J.kd ?_ | (refine J.o 4 ?_; first | refine J.lT default hΓ ?_ | refine J.lR hΓ ?_) | (refine J.o 3 ?_; first | refine J.iA hΓ ?_ | refine J.iJ hΓ ?_ | refine J.fP hΓ ?_ | refine J.ev' hΓ ?_) | (refine J.o 1 ?_; first | refine J.ad ?_) | (refine J.o 5 ?_; first | refine J.t0 hΓ ?_ | refine J.t1 hΓ ?_) | (refine J.o 6 ?_; refine J.bx (fun _ => ?_)) | (refine J.o 7 ?_; refine J.al hΓ (fun _ => ?_)) | (refine J.o 10 ?_; refine J.ev' hΓ ?_) | (refine J.o 11 ?_; refine J.ev' hΓ ?_)) | ((fail_if_success refine J.wt ?_); refine J.gc rfl rfl (fun hc => ?_) (fun hc => ?_) <;> ((try simp only [decide_eq_true_eq, decide_eq_false_iff_not, beq_iff_eq, beq_eq_false_iff_ne, bne_iff_ne, bne_eq_false_iff_eq, Bool.not_eq_true', Bool.not_eq_false', Bool.not_eq_true, Bool.not_eq_false] at hc) <;> first | (first | (exact absurd rfl hc) | (exfalso; omega) | (exact absurd (hc.symm.trans (by assumption : _ = false)) (by decide)) | (exact absurd (hc.symm.trans (by assumption : _ = true)) (by decide))) | skip)))
            | (first | refine JC.seq ?_ | refine JC.region ?_ | refine JC.block ?_ | refine JC.ret ?_ | refine JC.exit ?_ | refine JC.skip ?_ | refine thenK.nn ?_ | refine thenK.r ?_ | refine thenK.x ?_ | refine blockK.nn ?_ | refine blockK.r ?_ | refine blockK.hit rfl ?_ | refine JC.condT rfl ?_ | refine JC.condF rfl ?_ | (refine JC.cond rfl (fun hc => ?_) (fun hc => ?_) <;> ((try simp only [decide_eq_true_eq, decide_eq_false_iff_not, beq_iff_eq, beq_eq_false_iff_ne, bne_iff_ne, bne_eq_false_iff_eq, Bool.not_eq_true', Bool.not_eq_false', Bool.not_eq_true, Bool.not_eq_false] at hc) <;> first | (first | (exact absurd rfl hc) | (exfalso; omega) | (exact absurd (hc.symm.trans (by assumption : _ = false)) (by decide)) | (exact absurd (hc.symm.trans (by assumption : _ = true)) (by decide))) | skip)) | refine drawK.nn ?_ | refine loopK.x ?_)
            | ((first | refine JC.drawO [(1,0),(0,1),(0,2),(1,3),(1,4),(2,5),(0,6),(2,7),(0,8)] (by decide +kernel) (by decide +kernel) ?_ | refine JC.drawO [(1,0),(0,1),(0,2),(1,3),(1,4),(0,5),(2,6)] (by decide +kernel) (by decide +kernel) ?_))
            | fail
          refine J.isJ ?_
          refine J.o 9 ?_
          refine J.callvx eChC rfl rfl rfl (fun w hw => ih (n - (mnP n s.ns x 3 + 1)) (by omega) _ s (partT s.ns x (mnP n s.ns x 3) false) rfl so (xl _) (xf _) hs0 hin (hGb _) (H.sel (l := [_, _, _, _, _, _, _]) (M := L) hw [3, 4, 5, 6, 0, 1, 2]) r1.tl.tl.tl r2.tl.tl.tl) ?_
          rintro _ _ ⟨s1, y1, rfl, rfl, ad1, it1, in1⟩
          have hG1 := iteF_ext hwf ad1.ext (xl true)
          have hs1 := ad1.ext.le
          unfold sF stO
          simp only [List.cons_append, List.nil_append]
          repeat' first
            | (refine J.isJ ?_; first | (fail) | (first | (refine J.o 0 ?_; refine J.ev' hΓ ?_) | refine J.nil ?_ | refine J.kd ?_ | (refine J.o 4 ?_; first | refine J.lT default hΓ ?_ | refine J.lR hΓ ?_) | (refine J.o 3 ?_; first | refine J.iA hΓ ?_ | refine J.iJ hΓ ?_ | refine J.fP hΓ ?_ | refine J.ev' hΓ ?_) | (refine J.o 1 ?_; first | refine J.ad ?_) | (refine J.o 5 ?_; first | refine J.t0 hΓ ?_ | refine J.t1 hΓ ?_) | (refine J.o 6 ?_; refine J.bx (fun _ => ?_)) | (refine J.o 7 ?_; refine J.al hΓ (fun _ => ?_)) | (refine J.o 10 ?_; refine J.ev' hΓ ?_) | (refine J.o 11 ?_; refine J.ev' hΓ ?_)) | ((fail_if_success refine J.wt ?_); refine J.gc rfl rfl (fun hc => ?_) (fun hc => ?_) <;> ((try simp only [decide_eq_true_eq, decide_eq_false_iff_not, beq_iff_eq, beq_eq_false_iff_ne, bne_iff_ne, bne_eq_false_iff_eq, Bool.not_eq_true', Bool.not_eq_false', Bool.not_eq_true, Bool.not_eq_false] at hc) <;> first | (first | (exact absurd rfl hc) | (exfalso; omega) | (exact absurd (hc.symm.trans (by assumption : _ = false)) (by decide)) | (exact absurd (hc.symm.trans (by assumption : _ = true)) (by decide))) | skip)))
            | (first | refine JC.seq ?_ | refine JC.region ?_ | refine JC.block ?_ | refine JC.ret ?_ | refine JC.exit ?_ | refine JC.skip ?_ | refine thenK.nn ?_ | refine thenK.r ?_ | refine thenK.x ?_ | refine blockK.nn ?_ | refine blockK.r ?_ | refine blockK.hit rfl ?_ | refine JC.condT rfl ?_ | refine JC.condF rfl ?_ | (refine JC.cond rfl (fun hc => ?_) (fun hc => ?_) <;> ((try simp only [decide_eq_true_eq, decide_eq_false_iff_not, beq_iff_eq, beq_eq_false_iff_ne, bne_iff_ne, bne_eq_false_iff_eq, Bool.not_eq_true', Bool.not_eq_false', Bool.not_eq_true, Bool.not_eq_false] at hc) <;> first | (first | (exact absurd rfl hc) | (exfalso; omega) | (exact absurd (hc.symm.trans (by assumption : _ = false)) (by decide)) | (exact absurd (hc.symm.trans (by assumption : _ = true)) (by decide))) | skip)) | refine drawK.nn ?_ | refine loopK.x ?_)
            | (fail)
            | fail
          refine JC.drawD ([(b10, Obj.cells ⟨[.int .i64 (partN s.ns x.a (mnP n s.ns x 3) true : Int), .int .i64 (partN s.ns x.b (mnP n s.ns x 3) true : Int), .int .i64 (partN s.ns x.c (mnP n s.ns x 3) true : Int)]⟩ 104 (0, 0))] :: L) [(4, 0), (0, 1), (0, 2), (4, 3), (4, 4), (3, 5), (0, 6), (2, 7), (0, 8)] (by kernel_rfl) (by kernel_rfl) ?_
          refine JD.ld hΓ (fun w hw => H.sel (l := [_, _, _, _, _, _, _]) (M := L) hw [4]) rc1.tl ?_
          refine JD.ev hΓ ?_
          refine JD.ev hΓ ?_
          refine JD.ld hΓ (fun w hw => H.sel (l := [_, _, _, _, _, _, _]) (M := L) hw [4]) rc2.tl ?_
          refine JD.ld hΓ (fun w hw => H.sel (l := [_, _, _, _, _, _, _]) (M := L) hw [4]) Rd.hd ?_
          refine JD.callvd eChC rfl rfl rfl (fun w hw => ih (n - (mnP n s.ns x 3 + 1)) (by omega) _ s1 (partT s.ns x (mnP n s.ns x 3) true) rfl ad1.ok ((xl _).ext ad1.ext) ((xf _).ext ad1.ext (xl _)) (by omega) in1 (by rw [hG1]; exact hGb _) hw r1.tl.tl.tl r2.tl.tl.tl) ?_
          rintro _ _ ⟨s2, y2, rfl, rfl, ad2, it2, in2⟩
          have hl2 := in2.len lv ad2.ok.wf h20
          have e12 := ad1.ext.trans ad2.ext
          have k1 := it1.from ad1.ok.wf ((xl _).ext ad1.ext) ((xf _).ext ad1.ext (xl _))
          rw [← ad2.ext.at_ y1 it1.lt] at k1
          have k2 := it2.from ad2.ok.wf ((xl _).ext e12) ((xf _).ext e12 (xl _))
          have y1l : y1 < s2.ns.length := Nat.lt_of_lt_of_le it1.lt ad2.ext.le
          refine ⟨fun w hw => H.sel (l := [_, _, _, _, _, _, _]) (M := L) hw [4], ?_⟩
          refine JD.bd hΓ ?_
          refine JD.callvx eAdd rfl rfl rfl (fun w hw => add_new ad2.ok ⟨mnP n s.ns x 3, y1, y2⟩ hp1 y1l it2.lt k1 k2 (by omega) hw) ?_
          rintro _ _ ⟨s3, y3, rfl, rfl, ad3, fn3, hnw⟩
          have l3 := ad3.le
          have e23 := ad2.ext.trans ad3.ext
          have e13 := e12.trans ad3.ext
          have so3 := ad3.ok
          have hite : Ite n s3.ns x y3 := Ite.join so3.wf (hx.ext e13) hp1 (by rw [partT_ext e13 _ hx]; exact it1.ext ad1.ok.wf e23 ((xl _).ext ad1.ext)) (by rw [partT_ext e13 _ hx]; exact it2.ext ad2.ok.wf ad3.ext ((xl _).ext e12)) ad3.lt fn3
          have in3 : InG n Φ s3.ns s0 := in2.ext ad2.ok.wf ad3.ext (hnw.imp id fun g => ⟨g, l3⟩) (by
            have e : fn n s3.ns y3 = iteF n s.ns x := by rw [← iteF_ext hwf e13 hx]; exact funext fun α => hite.eq α
            rw [e]; exact hG0)
          have sm3 := so3.sm
          have mm3 := so3.mm
          refine JD.ev hΓ ?_
          refine JD.nil ?_
          unfold sF stO
          simp only [List.cons_append, List.nil_append]
          repeat' first
            | (refine J.isJ ?_; first | (first | (refine J.o 4 ?_; first | refine J.lR hΓ ?_ (hr := rc1.tl.tl.tl.tl.tl.tl.tl) | refine J.lR hΓ ?_ (hr := Rd.hd.tl.tl.tl.tl.tl.tl)) | (refine J.o 9 ?_; refine J.perm br3 ?_; refine J.mup (a := x) (ev := evI) y3 kT ekT_inj mm3 hkey hΓ (fun h4 mt4 => ?_))) | (first | (refine J.o 0 ?_; refine J.ev' hΓ ?_) | refine J.nil ?_ | refine J.kd ?_ | (refine J.o 4 ?_; first | refine J.lT default hΓ ?_ | refine J.lR hΓ ?_) | (refine J.o 3 ?_; first | refine J.iA hΓ ?_ | refine J.iJ hΓ ?_ | refine J.fP hΓ ?_ | refine J.ev' hΓ ?_) | (refine J.o 1 ?_; first | refine J.ad ?_) | (refine J.o 5 ?_; first | refine J.t0 hΓ ?_ | refine J.t1 hΓ ?_) | (refine J.o 6 ?_; refine J.bx (fun _ => ?_)) | (refine J.o 7 ?_; refine J.al hΓ (fun _ => ?_)) | (refine J.o 10 ?_; refine J.ev' hΓ ?_) | (refine J.o 11 ?_; refine J.ev' hΓ ?_)) | ((fail_if_success refine J.wt ?_); refine J.gc rfl rfl (fun hc => ?_) (fun hc => ?_) <;> ((try simp only [decide_eq_true_eq, decide_eq_false_iff_not, beq_iff_eq, beq_eq_false_iff_ne, bne_iff_ne, bne_eq_false_iff_eq, Bool.not_eq_true', Bool.not_eq_false', Bool.not_eq_true, Bool.not_eq_false] at hc) <;> first | (first | (exact absurd rfl hc) | (exfalso; omega) | (exact absurd (hc.symm.trans (by assumption : _ = false)) (by decide)) | (exact absurd (hc.symm.trans (by assumption : _ = true)) (by decide))) | skip)))
            | (first | refine JC.seq ?_ | refine JC.region ?_ | refine JC.block ?_ | refine JC.ret ?_ | refine JC.exit ?_ | refine JC.skip ?_ | refine thenK.nn ?_ | refine thenK.r ?_ | refine thenK.x ?_ | refine blockK.nn ?_ | refine blockK.r ?_ | refine blockK.hit rfl ?_ | refine JC.condT rfl ?_ | refine JC.condF rfl ?_ | (refine JC.cond rfl (fun hc => ?_) (fun hc => ?_) <;> ((try simp only [decide_eq_true_eq, decide_eq_false_iff_not, beq_iff_eq, beq_eq_false_iff_ne, bne_iff_ne, bne_eq_false_iff_eq, Bool.not_eq_true', Bool.not_eq_false', Bool.not_eq_true, Bool.not_eq_false] at hc) <;> first | (first | (exact absurd rfl hc) | (exfalso; omega) | (exact absurd (hc.symm.trans (by assumption : _ = false)) (by decide)) | (exact absurd (hc.symm.trans (by assumption : _ = true)) (by decide))) | skip)) | refine drawK.nn ?_ | refine loopK.x ?_)
            | ((refine JC.drawO [(1,0),(0,1),(0,2),(1,3),(1,4),(0,5),(2,6)] (by decide +kernel) (by decide +kernel) ?_))
            | fail
          all_goals first | (exfalso; omega) | skip
          refine ret1f rfl rfl rfl (fun w1 hw => ⟨_, _, rfl, H.sel (l := [_, _, _, _, _, _, _]) (M := L) hw [1, 2, 3, 0], ⟨s3.an, s3.cn, s3.ns, s3.hN, s3.u, s3.hU, mput s3.m x y3, h4⟩, y3, rfl, rfl, ⟨⟨so3.n8, so3.no, so3.wf, so3.sm, so3.ow, so3.um, so3.uk, mt4, so3.mo.put (hx.ext e13) hite⟩, e13, by show s3.ns.length ≤ _; omega, ad3.lt⟩, hite, in3⟩)
        ·
          repeat' first
            | (refine J.isJ ?_; first | (first | (refine J.o 12 ?_; refine J.xI hΓ ?_) | (refine J.o 4 ?_; first | refine J.lR hΓ ?_ (hr := rc1.tl.tl.tl.tl.tl.tl.tl)) | (refine J.fc 51 ?_; refine J.call0 ePart rfl rfl (fun w hw => cPart w _ hw Rd.hd.tl.tl.tl RdH.hd.tl.tl.tl.tl x.a false hx1) ?_) | (refine J.fc 51 ?_; refine J.call0 ePart rfl rfl (fun w hw => cPart w _ hw Rd.hd.tl.tl.tl RdH.hd.tl.tl.tl.tl x.a true hx1) ?_)) | (first | (refine J.o 0 ?_; refine J.ev' hΓ ?_) | refine J.nil ?_ | refine J.kd ?_ | (refine J.o 4 ?_; first | refine J.lT default hΓ ?_ | refine J.lR hΓ ?_) | (refine J.o 3 ?_; first | refine J.iA hΓ ?_ | refine J.iJ hΓ ?_ | refine J.fP hΓ ?_ | refine J.ev' hΓ ?_) | (refine J.o 1 ?_; first | refine J.ad ?_) | (refine J.o 5 ?_; first | refine J.t0 hΓ ?_ | refine J.t1 hΓ ?_) | (refine J.o 6 ?_; refine J.bx (fun _ => ?_)) | (refine J.o 7 ?_; refine J.al hΓ (fun _ => ?_)) | (refine J.o 10 ?_; refine J.ev' hΓ ?_) | (refine J.o 11 ?_; refine J.ev' hΓ ?_)) | ((fail_if_success refine J.wt ?_); refine J.gc rfl rfl (fun hc => ?_) (fun hc => ?_) <;> ((try simp only [decide_eq_true_eq, decide_eq_false_iff_not, beq_iff_eq, beq_eq_false_iff_ne, bne_iff_ne, bne_eq_false_iff_eq, Bool.not_eq_true', Bool.not_eq_false', Bool.not_eq_true, Bool.not_eq_false] at hc) <;> first | (first | (exact absurd rfl hc) | (exfalso; omega) | (exact absurd (hc.symm.trans (by assumption : _ = false)) (by decide)) | (exact absurd (hc.symm.trans (by assumption : _ = true)) (by decide))) | skip)))
            | (first | refine JC.seq ?_ | refine JC.region ?_ | refine JC.block ?_ | refine JC.ret ?_ | refine JC.exit ?_ | refine JC.skip ?_ | refine thenK.nn ?_ | refine thenK.r ?_ | refine thenK.x ?_ | refine blockK.nn ?_ | refine blockK.r ?_ | refine blockK.hit rfl ?_ | refine JC.condT rfl ?_ | refine JC.condF rfl ?_ | (refine JC.cond rfl (fun hc => ?_) (fun hc => ?_) <;> ((try simp only [decide_eq_true_eq, decide_eq_false_iff_not, beq_iff_eq, beq_eq_false_iff_ne, bne_iff_ne, bne_eq_false_iff_eq, Bool.not_eq_true', Bool.not_eq_false', Bool.not_eq_true, Bool.not_eq_false] at hc) <;> first | (first | (exact absurd rfl hc) | (exfalso; omega) | (exact absurd (hc.symm.trans (by assumption : _ = false)) (by decide)) | (exact absurd (hc.symm.trans (by assumption : _ = true)) (by decide))) | skip)) | refine drawK.nn ?_ | refine loopK.x ?_)
            | ((refine JC.drawO [(0,0),(0,1),(1,2),(0,3),(0,4),(1,6),(0,7),(0,8),(1,5),(0,10),(1,9),(2,11),(0,12),(2,13)] (by kernel_rfl) (by kernel_rfl) ?_))
            | fail
          all_goals first | (exfalso; omega) | skip
          refine loopK.nn (m2 - 1) (by omega) (by repeat (first | refine Ag.upd rfl ?_ | exact Ag.hv)) ⟨1, rfl, by omega, rfl⟩
        ·
          repeat' first
            | (refine J.isJ ?_; first | (first | (refine J.o 12 ?_; refine J.xI hΓ ?_) | (refine J.o 4 ?_; first | refine J.lR hΓ ?_ (hr := rc1.tl.tl.tl.tl.tl.tl.tl)) | (refine J.fc 51 ?_; refine J.call0 ePart rfl rfl (fun w hw => cPart w _ hw Rd.hd.tl.tl.tl RdH.hd.tl.tl.tl.tl x.b false hx2) ?_) | (refine J.fc 51 ?_; refine J.call0 ePart rfl rfl (fun w hw => cPart w _ hw Rd.hd.tl.tl.tl RdH.hd.tl.tl.tl.tl x.b true hx2) ?_)) | (first | (refine J.o 0 ?_; refine J.ev' hΓ ?_) | refine J.nil ?_ | refine J.kd ?_ | (refine J.o 4 ?_; first | refine J.lT default hΓ ?_ | refine J.lR hΓ ?_) | (refine J.o 3 ?_; first | refine J.iA hΓ ?_ | refine J.iJ hΓ ?_ | refine J.fP hΓ ?_ | refine J.ev' hΓ ?_) | (refine J.o 1 ?_; first | refine J.ad ?_) | (refine J.o 5 ?_; first | refine J.t0 hΓ ?_ | refine J.t1 hΓ ?_) | (refine J.o 6 ?_; refine J.bx (fun _ => ?_)) | (refine J.o 7 ?_; refine J.al hΓ (fun _ => ?_)) | (refine J.o 10 ?_; refine J.ev' hΓ ?_) | (refine J.o 11 ?_; refine J.ev' hΓ ?_)) | ((fail_if_success refine J.wt ?_); refine J.gc rfl rfl (fun hc => ?_) (fun hc => ?_) <;> ((try simp only [decide_eq_true_eq, decide_eq_false_iff_not, beq_iff_eq, beq_eq_false_iff_ne, bne_iff_ne, bne_eq_false_iff_eq, Bool.not_eq_true', Bool.not_eq_false', Bool.not_eq_true, Bool.not_eq_false] at hc) <;> first | (first | (exact absurd rfl hc) | (exfalso; omega) | (exact absurd (hc.symm.trans (by assumption : _ = false)) (by decide)) | (exact absurd (hc.symm.trans (by assumption : _ = true)) (by decide))) | skip)))
            | (first | refine JC.seq ?_ | refine JC.region ?_ | refine JC.block ?_ | refine JC.ret ?_ | refine JC.exit ?_ | refine JC.skip ?_ | refine thenK.nn ?_ | refine thenK.r ?_ | refine thenK.x ?_ | refine blockK.nn ?_ | refine blockK.r ?_ | refine blockK.hit rfl ?_ | refine JC.condT rfl ?_ | refine JC.condF rfl ?_ | (refine JC.cond rfl (fun hc => ?_) (fun hc => ?_) <;> ((try simp only [decide_eq_true_eq, decide_eq_false_iff_not, beq_iff_eq, beq_eq_false_iff_ne, bne_iff_ne, bne_eq_false_iff_eq, Bool.not_eq_true', Bool.not_eq_false', Bool.not_eq_true, Bool.not_eq_false] at hc) <;> first | (first | (exact absurd rfl hc) | (exfalso; omega) | (exact absurd (hc.symm.trans (by assumption : _ = false)) (by decide)) | (exact absurd (hc.symm.trans (by assumption : _ = true)) (by decide))) | skip)) | refine drawK.nn ?_ | refine loopK.x ?_)
            | ((refine JC.drawO [(0,0),(0,1),(1,2),(0,3),(0,4),(1,6),(0,7),(0,8),(1,5),(0,10),(1,9),(2,11),(0,12),(2,13)] (by kernel_rfl) (by kernel_rfl) ?_))
            | fail
          all_goals first | (exfalso; omega) | skip
          refine loopK.nn (m2 - 1) (by omega) (by repeat (first | refine Ag.upd rfl ?_ | exact Ag.hv)) ⟨2, rfl, by omega, rfl⟩
        ·
          repeat' first
            | (refine J.isJ ?_; first | (first | (refine J.o 12 ?_; refine J.xI hΓ ?_) | (refine J.o 4 ?_; first | refine J.lR hΓ ?_ (hr := rc1.tl.tl.tl.tl.tl.tl.tl)) | (refine J.fc 51 ?_; refine J.call0 ePart rfl rfl (fun w hw => cPart w _ hw Rd.hd.tl.tl.tl RdH.hd.tl.tl.tl.tl x.c false hx3) ?_) | (refine J.fc 51 ?_; refine J.call0 ePart rfl rfl (fun w hw => cPart w _ hw Rd.hd.tl.tl.tl RdH.hd.tl.tl.tl.tl x.c true hx3) ?_)) | (first | (refine J.o 0 ?_; refine J.ev' hΓ ?_) | refine J.nil ?_ | refine J.kd ?_ | (refine J.o 4 ?_; first | refine J.lT default hΓ ?_ | refine J.lR hΓ ?_) | (refine J.o 3 ?_; first | refine J.iA hΓ ?_ | refine J.iJ hΓ ?_ | refine J.fP hΓ ?_ | refine J.ev' hΓ ?_) | (refine J.o 1 ?_; first | refine J.ad ?_) | (refine J.o 5 ?_; first | refine J.t0 hΓ ?_ | refine J.t1 hΓ ?_) | (refine J.o 6 ?_; refine J.bx (fun _ => ?_)) | (refine J.o 7 ?_; refine J.al hΓ (fun _ => ?_)) | (refine J.o 10 ?_; refine J.ev' hΓ ?_) | (refine J.o 11 ?_; refine J.ev' hΓ ?_)) | ((fail_if_success refine J.wt ?_); refine J.gc rfl rfl (fun hc => ?_) (fun hc => ?_) <;> ((try simp only [decide_eq_true_eq, decide_eq_false_iff_not, beq_iff_eq, beq_eq_false_iff_ne, bne_iff_ne, bne_eq_false_iff_eq, Bool.not_eq_true', Bool.not_eq_false', Bool.not_eq_true, Bool.not_eq_false] at hc) <;> first | (first | (exact absurd rfl hc) | (exfalso; omega) | (exact absurd (hc.symm.trans (by assumption : _ = false)) (by decide)) | (exact absurd (hc.symm.trans (by assumption : _ = true)) (by decide))) | skip)))
            | (first | refine JC.seq ?_ | refine JC.region ?_ | refine JC.block ?_ | refine JC.ret ?_ | refine JC.exit ?_ | refine JC.skip ?_ | refine thenK.nn ?_ | refine thenK.r ?_ | refine thenK.x ?_ | refine blockK.nn ?_ | refine blockK.r ?_ | refine blockK.hit rfl ?_ | refine JC.condT rfl ?_ | refine JC.condF rfl ?_ | (refine JC.cond rfl (fun hc => ?_) (fun hc => ?_) <;> ((try simp only [decide_eq_true_eq, decide_eq_false_iff_not, beq_iff_eq, beq_eq_false_iff_ne, bne_iff_ne, bne_eq_false_iff_eq, Bool.not_eq_true', Bool.not_eq_false', Bool.not_eq_true, Bool.not_eq_false] at hc) <;> first | (first | (exact absurd rfl hc) | (exfalso; omega) | (exact absurd (hc.symm.trans (by assumption : _ = false)) (by decide)) | (exact absurd (hc.symm.trans (by assumption : _ = true)) (by decide))) | skip)) | refine drawK.nn ?_ | refine loopK.x ?_)
            | ((refine JC.drawO [(0,0),(0,1),(1,2),(0,3),(0,4),(1,6),(0,7),(0,8),(1,5),(0,10),(1,9),(2,11),(0,12),(2,13)] (by kernel_rfl) (by kernel_rfl) ?_))
            | fail
          all_goals first | (exfalso; omega) | skip
          refine loopK.nn (m2 - 1) (by omega) (by repeat (first | refine Ag.upd rfl ?_ | exact Ag.hv)) ⟨3, rfl, by omega, rfl⟩
      ·
        repeat' first
          | (refine J.isJ ?_; first | (first | (refine J.o 12 ?_; refine J.xI hΓ ?_) | (refine J.o 4 ?_; first | refine J.lR hΓ ?_ (hr := rc1.tl.tl.tl.tl.tl) | refine J.lT default hΓ ?_ (hs := hsl) (hr := RdH.hd.tl.tl))) | (first | (refine J.o 0 ?_; refine J.ev' hΓ ?_) | refine J.nil ?_ | refine J.kd ?_ | (refine J.o 4 ?_; first | refine J.lT default hΓ ?_ | refine J.lR hΓ ?_) | (refine J.o 3 ?_; first | refine J.iA hΓ ?_ | refine J.iJ hΓ ?_ | refine J.fP hΓ ?_ | refine J.ev' hΓ ?_) | (refine J.o 1 ?_; first | refine J.ad ?_) | (refine J.o 5 ?_; first | refine J.t0 hΓ ?_ | refine J.t1 hΓ ?_) | (refine J.o 6 ?_; refine J.bx (fun _ => ?_)) | (refine J.o 7 ?_; refine J.al hΓ (fun _ => ?_)) | (refine J.o 10 ?_; refine J.ev' hΓ ?_) | (refine J.o 11 ?_; refine J.ev' hΓ ?_)) | ((fail_if_success refine J.wt ?_); refine J.gc rfl rfl (fun hc => ?_) (fun hc => ?_) <;> ((try simp only [decide_eq_true_eq, decide_eq_false_iff_not, beq_iff_eq, beq_eq_false_iff_ne, bne_iff_ne, bne_eq_false_iff_eq, Bool.not_eq_true', Bool.not_eq_false', Bool.not_eq_true, Bool.not_eq_false] at hc) <;> first | (first | (exact absurd rfl hc) | (exfalso; omega) | (exact absurd (hc.symm.trans (by assumption : _ = false)) (by decide)) | (exact absurd (hc.symm.trans (by assumption : _ = true)) (by decide))) | skip)))
          | (first | refine JC.seq ?_ | refine JC.region ?_ | refine JC.block ?_ | refine JC.ret ?_ | refine JC.exit ?_ | refine JC.skip ?_ | refine thenK.nn ?_ | refine thenK.r ?_ | refine thenK.x ?_ | refine blockK.nn ?_ | refine blockK.r ?_ | refine blockK.hit rfl ?_ | refine JC.condT rfl ?_ | refine JC.condF rfl ?_ | (refine JC.cond rfl (fun hc => ?_) (fun hc => ?_) <;> ((try simp only [decide_eq_true_eq, decide_eq_false_iff_not, beq_iff_eq, beq_eq_false_iff_ne, bne_iff_ne, bne_eq_false_iff_eq, Bool.not_eq_true', Bool.not_eq_false', Bool.not_eq_true, Bool.not_eq_false] at hc) <;> first | (first | (exact absurd rfl hc) | (exfalso; omega) | (exact absurd (hc.symm.trans (by assumption : _ = false)) (by decide)) | (exact absurd (hc.symm.trans (by assumption : _ = true)) (by decide))) | skip)) | refine drawK.nn ?_ | refine loopK.x ?_)
          | (fail)
          | fail
        all_goals first | (exfalso; omega) | skip
        refine loopK.nn (m1 - 1) (by omega) (by repeat (first | refine Ag.upd rfl ?_ | exact Ag.hv)) ⟨1, rfl, by omega, min_cast _ _, rfl⟩
      ·
        repeat' first
          | (refine J.isJ ?_; first | (first | (refine J.o 12 ?_; refine J.xI hΓ ?_) | (refine J.o 4 ?_; first | refine J.lR hΓ ?_ (hr := rc1.tl.tl.tl.tl.tl) | refine J.lT default hΓ ?_ (hs := hsl) (hr := RdH.hd.tl.tl))) | (first | (refine J.o 0 ?_; refine J.ev' hΓ ?_) | refine J.nil ?_ | refine J.kd ?_ | (refine J.o 4 ?_; first | refine J.lT default hΓ ?_ | refine J.lR hΓ ?_) | (refine J.o 3 ?_; first | refine J.iA hΓ ?_ | refine J.iJ hΓ ?_ | refine J.fP hΓ ?_ | refine J.ev' hΓ ?_) | (refine J.o 1 ?_; first | refine J.ad ?_) | (refine J.o 5 ?_; first | refine J.t0 hΓ ?_ | refine J.t1 hΓ ?_) | (refine J.o 6 ?_; refine J.bx (fun _ => ?_)) | (refine J.o 7 ?_; refine J.al hΓ (fun _ => ?_)) | (refine J.o 10 ?_; refine J.ev' hΓ ?_) | (refine J.o 11 ?_; refine J.ev' hΓ ?_)) | ((fail_if_success refine J.wt ?_); refine J.gc rfl rfl (fun hc => ?_) (fun hc => ?_) <;> ((try simp only [decide_eq_true_eq, decide_eq_false_iff_not, beq_iff_eq, beq_eq_false_iff_ne, bne_iff_ne, bne_eq_false_iff_eq, Bool.not_eq_true', Bool.not_eq_false', Bool.not_eq_true, Bool.not_eq_false] at hc) <;> first | (first | (exact absurd rfl hc) | (exfalso; omega) | (exact absurd (hc.symm.trans (by assumption : _ = false)) (by decide)) | (exact absurd (hc.symm.trans (by assumption : _ = true)) (by decide))) | skip)))
          | (first | refine JC.seq ?_ | refine JC.region ?_ | refine JC.block ?_ | refine JC.ret ?_ | refine JC.exit ?_ | refine JC.skip ?_ | refine thenK.nn ?_ | refine thenK.r ?_ | refine thenK.x ?_ | refine blockK.nn ?_ | refine blockK.r ?_ | refine blockK.hit rfl ?_ | refine JC.condT rfl ?_ | refine JC.condF rfl ?_ | (refine JC.cond rfl (fun hc => ?_) (fun hc => ?_) <;> ((try simp only [decide_eq_true_eq, decide_eq_false_iff_not, beq_iff_eq, beq_eq_false_iff_ne, bne_iff_ne, bne_eq_false_iff_eq, Bool.not_eq_true', Bool.not_eq_false', Bool.not_eq_true, Bool.not_eq_false] at hc) <;> first | (first | (exact absurd rfl hc) | (exfalso; omega) | (exact absurd (hc.symm.trans (by assumption : _ = false)) (by decide)) | (exact absurd (hc.symm.trans (by assumption : _ = true)) (by decide))) | skip)) | refine drawK.nn ?_ | refine loopK.x ?_)
          | (fail)
          | fail
        all_goals first | (exfalso; omega) | skip
        refine loopK.nn (m1 - 1) (by omega) (by repeat (first | refine Ag.upd rfl ?_ | exact Ag.hv)) ⟨2, rfl, by omega, min_cast _ _, rfl⟩
      ·
        repeat' first
          | (refine J.isJ ?_; first | (first | (refine J.o 12 ?_; refine J.xI hΓ ?_) | (refine J.o 4 ?_; first | refine J.lR hΓ ?_ (hr := rc1.tl.tl.tl.tl.tl) | refine J.lT default hΓ ?_ (hs := hsl) (hr := RdH.hd.tl.tl))) | (first | (refine J.o 0 ?_; refine J.ev' hΓ ?_) | refine J.nil ?_ | refine J.kd ?_ | (refine J.o 4 ?_; first | refine J.lT default hΓ ?_ | refine J.lR hΓ ?_) | (refine J.o 3 ?_; first | refine J.iA hΓ ?_ | refine J.iJ hΓ ?_ | refine J.fP hΓ ?_ | refine J.ev' hΓ ?_) | (refine J.o 1 ?_; first | refine J.ad ?_) | (refine J.o 5 ?_; first | refine J.t0 hΓ ?_ | refine J.t1 hΓ ?_) | (refine J.o 6 ?_; refine J.bx (fun _ => ?_)) | (refine J.o 7 ?_; refine J.al hΓ (fun _ => ?_)) | (refine J.o 10 ?_; refine J.ev' hΓ ?_) | (refine J.o 11 ?_; refine J.ev' hΓ ?_)) | ((fail_if_success refine J.wt ?_); refine J.gc rfl rfl (fun hc => ?_) (fun hc => ?_) <;> ((try simp only [decide_eq_true_eq, decide_eq_false_iff_not, beq_iff_eq, beq_eq_false_iff_ne, bne_iff_ne, bne_eq_false_iff_eq, Bool.not_eq_true', Bool.not_eq_false', Bool.not_eq_true, Bool.not_eq_false] at hc) <;> first | (first | (exact absurd rfl hc) | (exfalso; omega) | (exact absurd (hc.symm.trans (by assumption : _ = false)) (by decide)) | (exact absurd (hc.symm.trans (by assumption : _ = true)) (by decide))) | skip)))
          | (first | refine JC.seq ?_ | refine JC.region ?_ | refine JC.block ?_ | refine JC.ret ?_ | refine JC.exit ?_ | refine JC.skip ?_ | refine thenK.nn ?_ | refine thenK.r ?_ | refine thenK.x ?_ | refine blockK.nn ?_ | refine blockK.r ?_ | refine blockK.hit rfl ?_ | refine JC.condT rfl ?_ | refine JC.condF rfl ?_ | (refine JC.cond rfl (fun hc => ?_) (fun hc => ?_) <;> ((try simp only [decide_eq_true_eq, decide_eq_false_iff_not, beq_iff_eq, beq_eq_false_iff_ne, bne_iff_ne, bne_eq_false_iff_eq, Bool.not_eq_true', Bool.not_eq_false', Bool.not_eq_true, Bool.not_eq_false] at hc) <;> first | (first | (exact absurd rfl hc) | (exfalso; omega) | (exact absurd (hc.symm.trans (by assumption : _ = false)) (by decide)) | (exact absurd (hc.symm.trans (by assumption : _ = true)) (by decide))) | skip)) | refine drawK.nn ?_ | refine loopK.x ?_)
          | (fail)
          | fail
        all_goals first | (exfalso; omega) | skip
        refine loopK.nn (m1 - 1) (by omega) (by repeat (first | refine Ag.upd rfl ?_ | exact Ag.hv)) ⟨3, rfl, by omega, min_cast _ _, rfl⟩
theorem choose_lev {n : Nat} {K : KS} {s : SS} (so : SOk n K s) (x : T3) (hx : x.lt s.ns.length) {c : Nat} {Φ : Nat → List ((Nat → Bool) → Bool)} (lv : Lev n Φ c) (hG : InL n Φ 0 (iteF n s.ns x)) (hfull : s.ns.length + c < 1048576) {w0 w : World} {R : Heap} {L : List Heap} {b : Nat} (hw : H w0 R (sF K b s ++ L) w) :
    Calls Tryz.prog 32 #[.pointer (some ⟨b, 0, none⟩), .int .i64 (x.a : Int), .int .i64 (x.b : Int), .int .i64 (x.c : Int)] w fun e w' => ∃ v L', e = .returned v ∧ H w0 R L' w' ∧ ∃ s' y, v = .int .i64 ((y : Nat) : Int) ∧ L' = sF K b s' ++ L ∧ Adds n K s s' c y ∧ Ite n s'.ns x y := by
  have hf : x.from s.ns 0 := ⟨Nat.zero_le _, Nat.zero_le _, Nat.zero_le _⟩
  unfold sF at hw
  simp only [List.cons_append, List.nil_append] at hw
  refine calls_in Tryz.func32 Tryz.ntmps32 rfl rfl (hw) ?_
  repeat' first
    | (refine J.isJ ?_; first | (first | (refine J.o 6 ?_; refine J.bx (fun c1 => ?_)) | (refine J.o 7 ?_; refine J.al hΓ (fun c2 => ?_)) | (refine J.o 14 ?_; refine J.mf hΓ ?_) | (refine J.o 9 ?_; refine J.callvx eChC rfl rfl rfl (fun w hw => chL_any n K b c1 c2 lv so.wf.two hfull n 0 s x (by omega) so hx hf (Nat.le_refl _) (InG.start n Φ s.ns) hG (L := [(c2, fnC c1 c2)] :: [(c1, ptrS b)] :: L) (H.sel (l := [_, _, _, _, _, _]) (M := L) hw [2, 3, 4, 5, 0, 1]) (Rd.hd.tl) Rd.hd) ?_; rintro _ _ ⟨s1, y1, rfl, rfl, ad1, it1, in1⟩; have hl1 := in1.len lv ad1.ok.wf so.wf.two)) | (first | (refine J.o 0 ?_; refine J.ev' hΓ ?_) | refine J.nil ?_ | (refine J.o 4 ?_; first | refine J.lR hΓ ?_) | (refine J.o 3 ?_; first | refine J.ev' hΓ ?_) | (refine J.o 5 ?_; first | refine J.t0 hΓ ?_) | (refine J.o 6 ?_; refine J.bx (fun _ => ?_)) | (refine J.o 7 ?_; refine J.al hΓ (fun _ => ?_)) | (refine J.o 8 ?_; refine J.bd hΓ ?_) | (refine J.o 10 ?_; refine J.ev' hΓ ?_) | (refine J.o 11 ?_; refine J.ev' hΓ ?_) | (refine J.o 14 ?_; refine J.mf hΓ ?_)))
    | (first | refine JC.seq ?_ | refine JC.region ?_ | refine JC.ret ?_ | refine thenK.nn ?_)
    | (fail)
    | fail
  refine ret1f rfl rfl rfl (fun w1 hw => ⟨_, _, rfl, H.sel (l := [_, _, _, _, _, _]) (M := L) hw [0, 1, 2, 3], s1, y1, rfl, rfl, ⟨ad1.ok, ad1.ext, hl1, ad1.lt⟩, it1⟩)
end Go.Proofs.YtbhgahjeocnfcaaGreat
namespace Go.Proofs.YtbhgahjeocnfcaaGreat
open Go Go.Cx
set_option linter.unusedVariables false
set_option linter.unusedSimpArgs false
theorem flat_one {α : Type} (Φ : Nat → List α) (c : Nat) (h : ∀ j, (Φ j).length ≤ c) : ∀ n, ((List.range n).flatMap Φ).length ≤ n * c
  | 0 => by simp
  | n + 1 => by
    rw [List.range_succ, List.flatMap_append, List.length_append, List.flatMap_cons, List.flatMap_nil, List.append_nil, Nat.succ_mul]
    exact Nat.add_le_add (flat_one Φ c h n) (h n)
theorem flat_if {α : Type} (k : Nat) (x : List α) : ∀ n, ((List.range n).flatMap fun j => if j = k then x else []).length ≤ x.length
  | 0 => by simp
  | n + 1 => by
    rw [List.range_succ, List.flatMap_append, List.length_append, List.flatMap_cons, List.flatMap_nil, List.append_nil]
    by_cases h : n = k
    · subst h
      rw [if_pos rfl]
      have : ((List.range n).flatMap fun j => if j = n then x else []) = [] := by
        rw [List.flatMap_eq_nil_iff]
        intro j hj
        rw [List.mem_range] at hj
        rw [if_neg (by omega)]
      rw [this]; simp
    · rw [if_neg h]
      exact flat_if k x n
theorem lev_not (n k : Nat) : Lev n (fun j => if j = k then [(fun α : Nat → Bool => !α k)] else []) 1 := by
  refine ⟨fun j f hf i b α hi => ?_, fun j f b hj hf => ?_, flat_if k _ _⟩
  · split at hf
    · rename_i h
      rw [List.mem_singleton.1 hf]
      show (!(up α i b k)) = !(α k)
      rw [up_ne α b (by omega)]
    · cases hf
  · split at hf
    · rename_i h
      rw [List.mem_singleton.1 hf]
      refine .inl fun α β => ?_
      show (!(up α j b k)) = !(up β j b k)
      rw [h, up_eq, up_eq]
    · cases hf
def clF (n : Nat) (P Q : Nat → Bool) (j : Nat) (α : Nat → Bool) : Bool := (List.range n).any fun i => decide (j ≤ i) && (Bool.or (P i && α i) (Q i && !α i))
theorem clF_iff (n : Nat) (P Q : Nat → Bool) (j : Nat) (α : Nat → Bool) : clF n P Q j α = true ↔ ∃ i, i < n ∧ j ≤ i ∧ ((P i = true ∧ α i = true) ∨ (Q i = true ∧ α i = false)) := by
  unfold clF
  rw [List.any_eq_true]
  constructor
  · rintro ⟨i, hi, h⟩
    rw [Bool.and_eq_true, decide_eq_true_iff, Bool.or_eq_true, Bool.and_eq_true, Bool.and_eq_true, Bool.not_eq_true'] at h
    exact ⟨i, List.mem_range.1 hi, h.1, h.2⟩
  · rintro ⟨i, hi, h1, h2⟩
    refine ⟨i, List.mem_range.2 hi, ?_⟩
    rw [Bool.and_eq_true, decide_eq_true_iff, Bool.or_eq_true, Bool.and_eq_true, Bool.and_eq_true, Bool.not_eq_true']
    exact ⟨h1, h2⟩
theorem lev_cl (n : Nat) (P Q : Nat → Bool) : Lev n (fun j => [clF n P Q j]) (n + 1) := by
  refine ⟨fun j f hf i b α hi => ?_, fun j f b hj hf => ?_, by have := flat_one (fun j => [clF n P Q j]) 1 (fun _ => Nat.le_refl _) (n + 1); omega⟩
  · rw [List.mem_singleton.1 hf, Bool.eq_iff_iff, clF_iff, clF_iff]
    refine exists_congr fun q => ?_
    constructor
    · rintro ⟨h1, h2, h3⟩
      rw [up_ne α b (by omega)] at h3
      exact ⟨h1, h2, h3⟩
    · rintro ⟨h1, h2, h3⟩
      rw [up_ne α b (by omega)]
      exact ⟨h1, h2, h3⟩
  · rw [List.mem_singleton.1 hf]
    by_cases hb : (P j = true ∧ b = true) ∨ (Q j = true ∧ b = false)
    · refine .inl fun α β => ?_
      have : ∀ α, clF n P Q j (up α j b) = true := fun α => (clF_iff n P Q j _).2 ⟨j, hj, Nat.le_refl _, by rw [up_eq]; exact hb⟩
      show clF n P Q j (up α j b) = clF n P Q j (up β j b)
      rw [this, this]
    · refine .inr ⟨j + 1, by omega, by omega, List.mem_singleton.2 (funext fun α => ?_)⟩
      rw [Bool.eq_iff_iff, clF_iff, clF_iff]
      refine exists_congr fun q => ?_
      constructor
      · rintro ⟨h1, h2, h3⟩
        have hq : q ≠ j := fun e => by
          rw [e, up_eq] at h3
          exact hb h3
        rw [up_ne α b hq] at h3
        exact ⟨h1, by omega, h3⟩
      · rintro ⟨h1, h2, h3⟩
        rw [up_ne α b (by omega)]
        exact ⟨h1, by omega, h3⟩
end Go.Proofs.YtbhgahjeocnfcaaGreat
namespace Go.Proofs.YtbhgahjeocnfcaaGreat
open Go Go.Cx Go.RowKit
set_option linter.unusedVariables false
set_option linter.unusedSimpArgs false
set_option maxHeartbeats 4000000
attribute [local irreducible] J JC thenK blockK loopK roundK drawK retK QW Qt pel List.set Calls
open Go.Maps Go.Lib
set_option maxRecDepth 8000
attribute [local irreducible] JE Br eK0 eK3 brK pc
def litA (order : List Int) (l : Int) (α : Nat → Bool) : Bool := if l < 0 then !α ((rk order (varI l) 0).getD 0) else α ((rk order (varI l) 0).getD 0)
def clA (order : List Int) (c : List Int) (α : Nat → Bool) : Bool := c.any fun l => litA order l α
def thA (order : List Int) (T : List (List Int)) (α : Nat → Bool) : Bool := T.all fun c => clA order c α
def costT : List (List Int) → Nat
  | [] => 0
  | c :: T => c.length * 20 + 255 + costT T
theorem costT_len : ∀ T : List (List Int), T.length ≤ costT T
  | [] => Nat.le_refl _
  | c :: T => by have := costT_len T; rw [costT, List.length_cons]; omega
theorem costT_app : ∀ (a b : List (List Int)), costT (a ++ b) = costT a + costT b
  | [], b => by rw [List.nil_append, costT, Nat.zero_add]
  | c :: a, b => by rw [List.cons_append, costT, costT, costT_app a b]; omega
theorem clA_s (order : List Int) (c : List Int) {j : Nat} (h : j < c.length) (α : Nat → Bool) : clA order (c.take (j + 1)) α = Bool.or (clA order (c.take j) α) (litA order (c.getD j default) α) := by
  unfold clA; rw [take_g c j h, List.any_append]; simp
theorem thA_s (order : List Int) (vs : List HV) {i : Nat} (h : i < vs.length) (α : Nat → Bool) : thA order ((vs.take (i + 1)).map (·.l)) α = (thA order ((vs.take i).map (·.l)) α && clA order (vs.getD i default).l α) := by
  unfold thA; rw [take_g vs i h, List.map_append, List.all_append]; simp
theorem litA_neg {order : List Int} {l : Int} {k : Nat} {α : Nat → Bool} (h : l < 0) (hk : rk order (varI l) 0 = some k) : litA order l α = !α k := by unfold litA; rw [if_pos h, hk]; rfl
theorem litA_pos {order : List Int} {l : Int} {k : Nat} {α : Nat → Bool} (h : ¬ l < 0) (hk : rk order (varI l) 0 = some k) : litA order l α = α k := by unfold litA; rw [if_neg h, hk]; rfl
theorem RdH.app {R : Heap} {L : List Heap} {h : Heap} (M : List Heap) (r : RdH R L h) : RdH R (M ++ L) h := fun x hx => Rd.app M (r x hx)
theorem rbS2 {R : Heap} (K : KS) (b : Nat) (s : SS) (M : List Heap) : Rd R (sF K b s ++ M) b (.cells ⟨[.slice K.ao K.no K.co, .map (some K.bp), .slice s.an s.ns.length s.cn, .map (some K.bu), .map (some K.bi)]⟩ 72 (0, 0)) := by unfold sF stO; exact Rd.hd
theorem addv_any {n : Nat} {K : KS} {s : SS} (so : SOk n K s) (k : Nat) (hk : k < n) (hfull : s.ns.length + 1 ≤ 1048576) {w0 w : World} {R : Heap} {L : List Heap} {b0 : Nat} (hw : H w0 R (sF K b0 s ++ L) w) :
    Calls Tryz.prog 30 #[.pointer (some ⟨b0, 0, none⟩), ek3 ⟨k, 0, 1⟩] w fun e w' => ∃ v L', e = .returned v ∧ H w0 R L' w' ∧ ∃ s' y, v = .int .i64 ((y : Nat) : Int) ∧ L' = sF K b0 s' ++ L ∧ Res n K s s' 1 y (fun α => α k) := by
  have two := so.wf.two
  refine (add_any so ⟨k, 0, 1⟩ hk (show 0 < s.ns.length by omega) (show 1 < s.ns.length by omega) (show k < (nd s.ns 0).p by rw [so.wf.c0]; exact hk) (show k < (nd s.ns 1).p by rw [so.wf.c1]; exact hk) (by omega) hw).mono ?_
  rintro e w' ⟨v, L', h1, h2, s1, y1, h3, h4, ad1, it1⟩
  refine ⟨v, L', h1, h2, s1, y1, h3, h4, ad1, fun α => ?_⟩
  rw [it1 α]
  show (if α k then fn n s1.ns 1 α else fn n s1.ns 0 α) = α k
  rw [fn_0 ad1.ok.wf, fn_1 ad1.ok.wf]
  cases α k <;> rfl
theorem ch3_any {n : Nat} {K : KS} {s : SS} (so : SOk n K s) (a b c : Nat) (ha : a < s.ns.length) (hb : b < s.ns.length) (hc : c < s.ns.length) (hfull : s.ns.length + (2 ^ n - 1) ≤ 1048576) {w0 w : World} {R : Heap} {L : List Heap} {b0 : Nat} (hw : H w0 R (sF K b0 s ++ L) w) :
    Calls Tryz.prog 32 #[.pointer (some ⟨b0, 0, none⟩), .int .i64 (a : Int), .int .i64 (b : Int), .int .i64 (c : Int)] w fun e w' => ∃ v L', e = .returned v ∧ H w0 R L' w' ∧ ∃ s' y, v = .int .i64 ((y : Nat) : Int) ∧ L' = sF K b0 s' ++ L ∧ Res n K s s' (2 ^ n - 1) y (fun α => if fn n s.ns a α then fn n s.ns b α else fn n s.ns c α) := by
  refine (choose_any so ⟨a, b, c⟩ ⟨ha, hb, hc⟩ hfull hw).mono ?_
  rintro e w' ⟨v, L', h1, h2, s1, y1, h3, h4, ad1, it1⟩
  refine ⟨v, L', h1, h2, s1, y1, h3, h4, ad1, fun α => ?_⟩
  have he := it1.eq α
  dsimp only at he
  rw [he, fn_ext so.wf ad1.ext ha, fn_ext so.wf ad1.ext hb, fn_ext so.wf ad1.ext hc]
theorem ch3_lev {n : Nat} {K : KS} {s : SS} (so : SOk n K s) (a b c : Nat) (ha : a < s.ns.length) (hb : b < s.ns.length) (hc : c < s.ns.length) {m : Nat} {Φ : Nat → List ((Nat → Bool) → Bool)} (lv : Lev n Φ m) {G : (Nat → Bool) → Bool} (hG : ∀ α, (if fn n s.ns a α then fn n s.ns b α else fn n s.ns c α) = G α) (hi : InL n Φ 0 G) (hfull : s.ns.length + m < 1048576) {w0 w : World} {R : Heap} {L : List Heap} {b0 : Nat} (hw : H w0 R (sF K b0 s ++ L) w) :
    Calls Tryz.prog 32 #[.pointer (some ⟨b0, 0, none⟩), .int .i64 (a : Int), .int .i64 (b : Int), .int .i64 (c : Int)] w fun e w' => ∃ v L', e = .returned v ∧ H w0 R L' w' ∧ ∃ s' y, v = .int .i64 ((y : Nat) : Int) ∧ L' = sF K b0 s' ++ L ∧ Res n K s s' m y G := by
  have e : iteF n s.ns ⟨a, b, c⟩ = G := funext hG
  refine (choose_lev so ⟨a, b, c⟩ ⟨ha, hb, hc⟩ lv (by rw [e]; exact hi) hfull hw).mono ?_
  rintro e w' ⟨v, L', h1, h2, s1, y1, h3, h4, ad1, it1⟩
  refine ⟨v, L', h1, h2, s1, y1, h3, h4, ad1, fun α => ?_⟩
  have he := it1.eq α
  dsimp only at he
  rw [he, fn_ext so.wf ad1.ext ha, fn_ext so.wf ad1.ext hb, fn_ext so.wf ad1.ext hc, hG]
def posA (order c : List Int) (i : Nat) : Bool := c.any fun l => !decide (l < 0) && decide (rk order (varI l) 0 = some i)
def negA (order c : List Int) (i : Nat) : Bool := c.any fun l => decide (l < 0) && decide (rk order (varI l) 0 = some i)
theorem clA_cl {order c : List Int} {n : Nat} (h : ∀ l ∈ c, ∃ k, k < n ∧ rk order (varI l) 0 = some k) : clA order c = clF n (posA order c) (negA order c) 0 := by
  funext α
  rw [Bool.eq_iff_iff, clF_iff]
  unfold clA posA negA
  rw [List.any_eq_true]
  constructor
  · rintro ⟨l, hl, ht⟩
    obtain ⟨k, hk, hr⟩ := h l hl
    refine ⟨k, hk, Nat.zero_le _, ?_⟩
    by_cases hn : l < 0
    · rw [litA_neg hn hr] at ht
      refine .inr ⟨List.any_eq_true.2 ⟨l, hl, ?_⟩, by simpa using ht⟩
      rw [decide_eq_true hn, decide_eq_true hr]; rfl
    · rw [litA_pos hn hr] at ht
      refine .inl ⟨List.any_eq_true.2 ⟨l, hl, ?_⟩, ht⟩
      rw [decide_eq_false hn, decide_eq_true hr]; rfl
  · rintro ⟨k, hk, _, ⟨h1, h2⟩ | ⟨h1, h2⟩⟩
    · obtain ⟨l, hl, g⟩ := List.any_eq_true.1 h1
      rw [Bool.and_eq_true, Bool.not_eq_true', decide_eq_false_iff_not, decide_eq_true_iff] at g
      exact ⟨l, hl, by rw [litA_pos g.1 g.2]; exact h2⟩
    · obtain ⟨l, hl, g⟩ := List.any_eq_true.1 h1
      rw [Bool.and_eq_true, decide_eq_true_iff, decide_eq_true_iff] at g
      exact ⟨l, hl, by rw [litA_neg g.1 g.2, h2]; rfl⟩
theorem inl_not (n k : Nat) (hk : k < n) : InL n (fun j => if j = k then [(fun α : Nat → Bool => !α k)] else []) 0 (fun α => !α k) := .inr ⟨k, Nat.zero_le _, by omega, by dsimp only; rw [if_pos rfl]; exact List.mem_cons_self⟩
theorem inl_cl (n : Nat) (P Q : Nat → Bool) : InL n (fun j => [clF n P Q j]) 0 (clF n P Q 0) := .inr ⟨0, Nat.zero_le _, Nat.zero_le _, List.mem_cons_self⟩
theorem eComC : Entr Tryz.prog 29 := Entr.of Tryz.func29 rfl rfl
theorem eCom : Entr Tryz.prog 8 := Entr.of Tryz.func8 rfl rfl
def thO (N : Int) (a : Option Addr) (m cap : Nat) : Obj := .cells ⟨[.int .i64 N, .slice a m cap]⟩ 24 (0, 0)
theorem comC_any {n : Nat} {K : KS} {s : SS} (so : SOk n K s) {order : List Int} {hO hP : Heap} (po : POk K order hO hP) (h8 : n ≤ 8) (N : Int) (a : Option Addr) (cap : Nat) (vs : List HV) (hT : Heap) (ll : LLR a vs hT) (hlit : ∀ v ∈ vs, ∀ l ∈ v.l, ∃ k, rk order (varI l) 0 = some k) (hfull : s.ns.length + costT (vs.map (·.l)) ≤ 1048576) {w0 w : World} {R : Heap} {L : List Heap} {b0 c2 c8 : Nat} (rT : RdH R L hT) (rP : RdH R L hP) (r0 : Rd R L c2 (thO N a vs.length cap)) (r1 : Rd R L c8 (ptrS b0)) (hw : H w0 R (sF K b0 s ++ L) w) :
    Calls Tryz.prog 29 #[.pointer (some ⟨c2, 0, none⟩), .pointer (some ⟨c8, 0, none⟩)] w fun e w' => ∃ v L', e = .returned v ∧ H w0 R L' w' ∧ ∃ s' y, v = .int .i64 ((y : Nat) : Int) ∧ L' = sF K b0 s' ++ L ∧ Res n K s s' (costT (vs.map (·.l))) y (thA order (vs.map (·.l))) := by
  have h2n := pow8 h8
  have hno := so.no
  have hpl := po.len
  have pm := po.pm
  have two := so.wf.two
  unfold thO at r0
  unfold ptrS at r1
  obtain ⟨ho, hi⟩ := ll
  have hctk : ∀ i, i < vs.length → costT ((vs.take (i + 1)).map (·.l)) = costT ((vs.take i).map (·.l)) + ((vs.getD i default).l.length * 20 + 255) := fun i h => by rw [take_g vs i h, List.map_append, costT_app]; rfl
  have hcle : ∀ i, i ≤ vs.length → costT ((vs.take i).map (·.l)) ≤ costT (vs.map (·.l)) := fun i h => by
    have : vs.map (·.l) = (vs.take i).map (·.l) ++ (vs.drop i).map (·.l) := by rw [← List.map_append, List.take_append_drop]
    rw [this, costT_app]; omega
  have hvl := costT_len (vs.map (·.l))
  rw [List.length_map] at hvl
  refine calls_in Tryz.func29 Tryz.ntmps29 rfl rfl (hw) ?_
  repeat' first
    | (refine J.isJ ?_; first | ((refine J.o 4 ?_; first | refine J.lR hΓ ?_ (hr := Rd.app _ r0))) | (first | (refine J.o 0 ?_; refine J.ev' hΓ ?_) | refine J.nil ?_ | (refine J.o 4 ?_; first | refine J.lT default hΓ ?_ | refine J.lR hΓ ?_) | (refine J.o 3 ?_; first | refine J.iJ hΓ ?_ | refine J.ev' hΓ ?_) | (refine J.o 1 ?_; first | refine J.ad ?_) | (refine J.o 8 ?_; refine J.bd hΓ ?_) | (refine J.o 10 ?_; refine J.ev' hΓ ?_) | (refine J.o 11 ?_; refine J.ev' hΓ ?_)))
    | (first | refine JC.seq ?_ | refine JC.region ?_ | refine JC.block ?_ | refine JC.ret ?_ | refine JC.exit ?_ | refine JC.skip ?_ | refine thenK.nn ?_ | refine thenK.x ?_ | refine blockK.nn ?_ | refine blockK.hit rfl ?_ | (refine JC.cond rfl (fun hc => ?_) (fun hc => ?_) <;> ((try simp only [decide_eq_true_eq, decide_eq_false_iff_not, beq_iff_eq, beq_eq_false_iff_ne, bne_iff_ne, bne_eq_false_iff_eq, Bool.not_eq_true', Bool.not_eq_false', Bool.not_eq_true, Bool.not_eq_false] at hc) <;> first | (first | (exact absurd rfl hc) | (exfalso; omega) | (exact absurd (hc.symm.trans (by assumption : _ = false)) (by decide)) | (exact absurd (hc.symm.trans (by assumption : _ = true)) (by decide))) | skip)) | refine drawK.nn ?_ | refine loopK.x ?_)
    | (fail)
    | fail
  all_goals first | (exfalso; omega) | skip
  refine JC.loop (fun i => (Nat.ble 3 i && Nat.ble i 9) || Nat.ble 13 i) (fun m g L' => ∃ i s1 y, g 13 = .int .i64 ((i : Nat) : Int) ∧ g 3 = .int .i64 ((y : Nat) : Int) ∧ i + m = vs.length ∧ Adds n K s s1 (costT ((vs.take i).map (·.l))) y ∧ (∀ α, fn n s1.ns y α = thA order ((vs.take i).map (·.l)) α) ∧ L' = sF K b0 s1 ++ L) vs.length ⟨0, s, 1, rfl, rfl, by omega, (Adds.refl so (by omega)).mono (Nat.zero_le _), fun α => fn_1 so.wf α, rfl⟩ ?_
  rintro m g L' ⟨i, s1, y, e13, e3, him, ad, hfn, rfl⟩
  refine JC.pin 13 e13 ?_
  refine JC.pin 3 e3 ?_
  have adl := ad.le
  have two1 := ad.ok.wf.two
  rcases Nat.lt_or_ge i vs.length with hlt | hge
  ·
    have hc1 := hctk i hlt
    have hc2 := hcle (i + 1) hlt
    have hmv := mem_g vs i hlt
    have hik := hi _ hmv
    have hlv := hlit _ hmv
    repeat' first
      | (refine J.isJ ?_; first | ((refine J.o 4 ?_; first | refine J.lT default hΓ ?_ (hs := ho) (hr := RdH.app _ rT))) | (first | (refine J.o 0 ?_; refine J.ev' hΓ ?_) | refine J.nil ?_ | (refine J.o 4 ?_; first | refine J.lT default hΓ ?_ | refine J.lR hΓ ?_) | (refine J.o 3 ?_; first | refine J.iJ hΓ ?_ | refine J.ev' hΓ ?_) | (refine J.o 1 ?_; first | refine J.ad ?_) | (refine J.o 8 ?_; refine J.bd hΓ ?_) | (refine J.o 10 ?_; refine J.ev' hΓ ?_) | (refine J.o 11 ?_; refine J.ev' hΓ ?_)))
      | (first | refine JC.seq ?_ | refine JC.region ?_ | refine JC.block ?_ | refine JC.ret ?_ | refine JC.exit ?_ | refine JC.skip ?_ | refine thenK.nn ?_ | refine thenK.x ?_ | refine blockK.nn ?_ | refine blockK.hit rfl ?_ | (refine JC.cond rfl (fun hc => ?_) (fun hc => ?_) <;> ((try simp only [decide_eq_true_eq, decide_eq_false_iff_not, beq_iff_eq, beq_eq_false_iff_ne, bne_iff_ne, bne_eq_false_iff_eq, Bool.not_eq_true', Bool.not_eq_false', Bool.not_eq_true, Bool.not_eq_false] at hc) <;> first | (first | (exact absurd rfl hc) | (exfalso; omega) | (exact absurd (hc.symm.trans (by assumption : _ = false)) (by decide)) | (exact absurd (hc.symm.trans (by assumption : _ = true)) (by decide))) | skip)) | refine drawK.nn ?_ | refine loopK.x ?_)
      | (fail)
      | fail
    all_goals first | (exfalso; omega) | skip
    refine JC.loop (fun i => (Nat.ble 6 i && Nat.ble i 9) || (Nat.ble 19 i && Nat.ble i 42)) (fun m2 g2 L' => ∃ j s2 y2, g2 19 = .int .i64 ((j : Nat) : Int) ∧ g2 6 = .int .i64 ((y2 : Nat) : Int) ∧ j + m2 = (vs.getD i default).l.length ∧ Adds n K s1 s2 (j * 20) y2 ∧ (∀ α, fn n s2.ns y2 α = clA order ((vs.getD i default).l.take j) α) ∧ L' = sF K b0 s2 ++ L) (vs.getD i default).l.length ⟨0, s1, 0, rfl, rfl, by omega, (Adds.refl ad.ok (by omega)).mono (Nat.zero_le _), fun α => fn_0 ad.ok.wf α, rfl⟩ ?_
    rintro m2 g2 L' ⟨j, s2, y2, e19, e6, hjm, ad2, hfn2, rfl⟩
    refine JC.pin 19 e19 ?_
    refine JC.pin 6 e6 ?_
    have adl2 := ad2.le
    have two2 := ad2.ok.wf.two
    rcases Nat.lt_or_ge j (vs.getD i default).l.length with hj | hj
    ·
      obtain ⟨k, hk⟩ := hlv _ (mem_g (vs.getD i default).l j hj)
      have hkn : k < n := by obtain ⟨_, h2, _⟩ := rk_some hk; omega
      have hvr : -9223372036854775808 ≤ varI ((vs.getD i default).l.getD j default) ∧ varI ((vs.getD i default).l.getD j default) ≤ 9223372036854775807 := by unfold varI; split <;> (try split) <;> omega
      have hkey := keyI _ hvr
      have hget : mget (order.zipIdx 0) (varI ((vs.getD i default).l.getD j default)) = some k := by rw [mget_zip, hk]
      have hcl := clA_cl (order := order) (c := (vs.getD i default).l.take (j + 1)) (n := n) fun l hl => by
        obtain ⟨q, hq⟩ := hlv l (List.mem_of_mem_take hl)
        have := (rk_some hq).2.1
        exact ⟨q, by omega, hq⟩
      have hN3 : ∀ {s3 : SS} {y3 : Nat}, SOk n K s3 → (∀ α, fn n s3.ns y3 α = α k) → ∀ α, (if fn n s3.ns y3 α then fn n s3.ns 0 α else fn n s3.ns 1 α) = !α k := fun so3 f3 α => by
        rw [f3, fn_0 so3.wf, fn_1 so3.wf]; cases α k <;> rfl
      have hN4 : ∀ {s3 s4 : SS} {y3 y4 m3 m4 : Nat}, (vs.getD i default).l.getD j default < 0 → Adds n K s2 s3 m3 y3 → Adds n K s3 s4 m4 y4 → (∀ α, fn n s3.ns y3 α = α k) → (∀ α, fn n s4.ns y4 α = !α k) → ∀ α, (if fn n s4.ns y4 α then fn n s4.ns 1 α else fn n s4.ns y2 α) = clF n (posA order ((vs.getD i default).l.take (j + 1))) (negA order ((vs.getD i default).l.take (j + 1))) 0 α := fun hg ad3 ad4 f3 f4 α => by
        rw [← hcl, f4, fn_1 ad4.ok.wf, clA_s _ _ hj, litA_neg hg hk, fn_ext ad2.ok.wf (ad3.ext.trans ad4.ext) ad2.lt, hfn2]
        cases α k <;> cases clA order ((vs.getD i default).l.take j) α <;> rfl
      have hN5 : ∀ {s3 : SS} {y3 m3 : Nat}, ¬ (vs.getD i default).l.getD j default < 0 → Adds n K s2 s3 m3 y3 → (∀ α, fn n s3.ns y3 α = α k) → ∀ α, (if fn n s3.ns y3 α then fn n s3.ns 1 α else fn n s3.ns y2 α) = clF n (posA order ((vs.getD i default).l.take (j + 1))) (negA order ((vs.getD i default).l.take (j + 1))) 0 α := fun hg ad3 f3 α => by
        rw [← hcl, f3, fn_1 ad3.ok.wf, clA_s _ _ hj, litA_pos hg hk, fn_ext ad2.ok.wf ad3.ext ad2.lt, hfn2]
        cases α k <;> cases clA order ((vs.getD i default).l.take j) α <;> rfl
      have hjb : j * 20 + 20 ≤ (vs.getD i default).l.length * 20 := by omega
      repeat' first
        | (refine J.isJ ?_; first | (first | (refine J.o 4 ?_; first | refine J.lR hΓ ?_ (hr := Rd.app _ r1) | refine J.lR hΓ ?_ (hr := rbS2 K b0 s2 L) | refine J.lT default hΓ ?_ (hs := hik) (hr := RdH.app _ rT)) | (refine J.fc 31 ?_; refine J.call0 eVarL rfl rfl (fun w hw => varL_any _ w) ?_) | (refine J.o 9 ?_; refine J.lk (a := varI ((vs.getD i default).l.getD j default)) keyedI ekI_inj pm (RdH.app _ rP) hkey hΓ ?_; rw [hget]) | (refine J.fc 30 ?_; refine J.callx eAdd rfl rfl (fun w hw => addv_any ad2.ok k hkn (by omega) hw) ?_; rintro _ _ ⟨s3, y3, rfl, rfl, ad3, f3⟩; have adl3 := ad3.le; have two3 := ad3.ok.wf.two) | (refine J.fc 32 ?_; first | (refine J.callx eCh rfl rfl (fun w hw => ch3_lev ad3.ok y3 0 1 ad3.lt (by omega) (by omega) (lev_not n k) (hN3 ad3.ok f3) (inl_not n k hkn) (by omega) hw) ?_; rintro _ _ ⟨s4, y4, rfl, rfl, ad4, f4⟩; have adl4 := ad4.le; have two4 := ad4.ok.wf.two) | (refine J.callx eCh rfl rfl (fun w hw => ch3_lev ad4.ok y4 1 y2 ad4.lt (by omega) (ad4.old (ad3.old ad2.lt)) (lev_cl n _ _) (hN4 (by omega) ad3 ad4 f3 f4) (inl_cl n _ _) (by omega) hw) ?_; rintro _ _ ⟨s5, y5, rfl, rfl, ad5, f5⟩) | (refine J.callx eCh rfl rfl (fun w hw => ch3_lev ad3.ok y3 1 y2 ad3.lt (by omega) (ad3.old ad2.lt) (lev_cl n _ _) (hN5 (by omega) ad3 f3) (inl_cl n _ _) (by omega) hw) ?_; rintro _ _ ⟨s5, y5, rfl, rfl, ad5, f5⟩))) | (first | (refine J.o 0 ?_; refine J.ev' hΓ ?_) | refine J.nil ?_ | (refine J.o 4 ?_; first | refine J.lT default hΓ ?_ | refine J.lR hΓ ?_) | (refine J.o 3 ?_; first | refine J.iJ hΓ ?_ | refine J.ev' hΓ ?_) | (refine J.o 1 ?_; first | refine J.ad ?_) | (refine J.o 8 ?_; refine J.bd hΓ ?_) | (refine J.o 10 ?_; refine J.ev' hΓ ?_) | (refine J.o 11 ?_; refine J.ev' hΓ ?_)))
        | (first | refine JC.seq ?_ | refine JC.region ?_ | refine JC.block ?_ | refine JC.ret ?_ | refine JC.exit ?_ | refine JC.skip ?_ | refine thenK.nn ?_ | refine thenK.x ?_ | refine blockK.nn ?_ | refine blockK.hit rfl ?_ | (refine JC.cond rfl (fun hc => ?_) (fun hc => ?_) <;> ((try simp only [decide_eq_true_eq, decide_eq_false_iff_not, beq_iff_eq, beq_eq_false_iff_ne, bne_iff_ne, bne_eq_false_iff_eq, Bool.not_eq_true', Bool.not_eq_false', Bool.not_eq_true, Bool.not_eq_false] at hc) <;> first | (first | (exact absurd rfl hc) | (exfalso; omega) | (exact absurd (hc.symm.trans (by assumption : _ = false)) (by decide)) | (exact absurd (hc.symm.trans (by assumption : _ = true)) (by decide))) | skip)) | refine drawK.nn ?_ | refine loopK.x ?_)
        | ((refine JC.drawO [(1,0),(1,1),(0,2),(0,3),(1,4),(0,5),(1,6),(1,7),(0,8),(2,9),(0,10)] (by decide +kernel) (by decide +kernel) ?_))
        | fail
      all_goals first | (exfalso; omega) | skip
      · refine loopK.nn (m2 - 1) (by omega) (by repeat (first | refine Ag.upd rfl ?_ | exact Ag.hv | refine Ag.hv2 (fun i hi => by simp at hi ⊢; omega) ?_)) ⟨j + 1, s5, y5, ?_, rfl, by omega, (((ad2.trans ad3).trans ad4).trans ad5).mono (by omega), fun α => ?_, rfl⟩
        · show Value.int .i64 _ = _; congr 1
        · have h3 := f3 α
          have h4 := f4 α
          have h5 := f5 α
          dsimp only at h3 h4 h5
          rw [h5, hcl]
      · refine loopK.nn (m2 - 1) (by omega) (by repeat (first | refine Ag.upd rfl ?_ | exact Ag.hv | refine Ag.hv2 (fun i hi => by simp at hi ⊢; omega) ?_)) ⟨j + 1, s5, y5, ?_, rfl, by omega, ((ad2.trans ad3).trans ad5).mono (by omega), fun α => ?_, rfl⟩
        · show Value.int .i64 _ = _; congr 1
        · have h3 := f3 α
          have h5 := f5 α
          dsimp only at h3 h5
          rw [h5, hcl]
    ·
      repeat' first
        | (refine J.isJ ?_; first | (first | (refine J.o 4 ?_; refine J.lR hΓ ?_ (hr := Rd.app _ r1)) | (refine J.fc 32 ?_; refine J.callx eCh rfl rfl (fun w hw => ch3_any ad2.ok y y2 0 (ad2.old ad.lt) ad2.lt (by omega) (by omega) hw) ?_; rintro _ _ ⟨s3, y3, rfl, rfl, ad3, f3⟩)) | (first | (refine J.o 0 ?_; refine J.ev' hΓ ?_) | refine J.nil ?_ | (refine J.o 4 ?_; first | refine J.lT default hΓ ?_ | refine J.lR hΓ ?_) | (refine J.o 3 ?_; first | refine J.iJ hΓ ?_ | refine J.ev' hΓ ?_) | (refine J.o 1 ?_; first | refine J.ad ?_) | (refine J.o 8 ?_; refine J.bd hΓ ?_) | (refine J.o 10 ?_; refine J.ev' hΓ ?_) | (refine J.o 11 ?_; refine J.ev' hΓ ?_)))
        | (first | refine JC.seq ?_ | refine JC.region ?_ | refine JC.block ?_ | refine JC.ret ?_ | refine JC.exit ?_ | refine JC.skip ?_ | refine thenK.nn ?_ | refine thenK.x ?_ | refine blockK.nn ?_ | refine blockK.hit rfl ?_ | (refine JC.cond rfl (fun hc => ?_) (fun hc => ?_) <;> ((try simp only [decide_eq_true_eq, decide_eq_false_iff_not, beq_iff_eq, beq_eq_false_iff_ne, bne_iff_ne, bne_eq_false_iff_eq, Bool.not_eq_true', Bool.not_eq_false', Bool.not_eq_true, Bool.not_eq_false] at hc) <;> first | (first | (exact absurd rfl hc) | (exfalso; omega) | (exact absurd (hc.symm.trans (by assumption : _ = false)) (by decide)) | (exact absurd (hc.symm.trans (by assumption : _ = true)) (by decide))) | skip)) | refine drawK.nn ?_ | refine loopK.x ?_)
        | (fail)
        | fail
      all_goals first | (exfalso; omega) | skip
      rw [List.take_of_length_le hj] at hfn2
      have hje : j = (vs.getD i default).l.length := by omega
      subst hje
      refine loopK.nn (m - 1) (by omega) (by repeat (first | refine Ag.upd rfl ?_ | exact Ag.hv | refine Ag.hv2 (fun i hi => by simp at hi ⊢; omega) ?_)) ⟨i + 1, s3, y3, ?_, rfl, by omega, ((ad.trans ad2).trans ad3).mono (by omega), fun α => ?_, rfl⟩
      · show Value.int .i64 _ = _; congr 1
      · have h3 := f3 α
        dsimp only at h3
        rw [h3, thA_s _ _ hlt, fn_0 ad2.ok.wf, fn_ext ad.ok.wf ad2.ext ad.lt, hfn, hfn2]
        cases thA order ((vs.take i).map (·.l)) α <;> rfl
  ·
    repeat' first
      | (refine J.isJ ?_; first | (fail) | (first | (refine J.o 0 ?_; refine J.ev' hΓ ?_) | refine J.nil ?_ | (refine J.o 4 ?_; first | refine J.lT default hΓ ?_ | refine J.lR hΓ ?_) | (refine J.o 3 ?_; first | refine J.iJ hΓ ?_ | refine J.ev' hΓ ?_) | (refine J.o 1 ?_; first | refine J.ad ?_) | (refine J.o 8 ?_; refine J.bd hΓ ?_) | (refine J.o 10 ?_; refine J.ev' hΓ ?_) | (refine J.o 11 ?_; refine J.ev' hΓ ?_)))
      | (first | refine JC.seq ?_ | refine JC.region ?_ | refine JC.block ?_ | refine JC.ret ?_ | refine JC.exit ?_ | refine JC.skip ?_ | refine thenK.nn ?_ | refine thenK.x ?_ | refine blockK.nn ?_ | refine blockK.hit rfl ?_ | (refine JC.cond rfl (fun hc => ?_) (fun hc => ?_) <;> ((try simp only [decide_eq_true_eq, decide_eq_false_iff_not, beq_iff_eq, beq_eq_false_iff_ne, bne_iff_ne, bne_eq_false_iff_eq, Bool.not_eq_true', Bool.not_eq_false', Bool.not_eq_true, Bool.not_eq_false] at hc) <;> first | (first | (exact absurd rfl hc) | (exfalso; omega) | (exact absurd (hc.symm.trans (by assumption : _ = false)) (by decide)) | (exact absurd (hc.symm.trans (by assumption : _ = true)) (by decide))) | skip)) | refine drawK.nn ?_ | refine loopK.x ?_)
      | (fail)
      | fail
    all_goals first | (exfalso; omega) | skip
    rw [List.take_of_length_le hge] at hfn ad
    refine ret1f rfl rfl rfl (fun w1 hw => ⟨_, _, rfl, hw, s1, y, rfl, rfl, ad, hfn⟩)
theorem cnt_all : ∀ k, k ≤ 128 → cntS (allS k) = k
  | 0, _ => by unfold cntS allS; rw [pc_zero]
  | k + 1, h => by
    have hh : hasB (allS k) ((k : Int) + 1) = false := by
      cases hh : hasB (allS k) ((k : Int) + 1) with
      | false => rfl
      | true => exact absurd ((has_all k _ (by omega)).1 hh) (by omega)
    rw [allS, cnt_with, cnt_all k (by omega), if_pos ⟨by omega, by omega, hh⟩]
theorem ord_of {l : List Int} {N : Nat} (hN : N ≤ 128) (h1 : l.length = N) (h2 : ofS l = allS N) : okOrd l := by
  rw [← ord_iff, h2, cnt_all N hN, h1]
theorem ord_rk {l : List Int} {N : Nat} (hN : N ≤ 128) (h2 : ofS l = allS N) {u : Int} (hu : 1 ≤ u ∧ u ≤ N) : ∃ k, rk l u 0 = some k := by
  cases h : rk l u 0 with
  | some k => exact ⟨k, rfl⟩
  | none =>
    rw [rk_none] at h
    have h3 := (has_all N u hN).2 hu
    rw [← h2] at h3
    unfold ofS at h3
    rcases (ofS_has l (0, 0) u).1 h3 with h4 | h4
    · rw [has_zero] at h4; cases h4
    · exact absurd h4.1 h
theorem varI_ok {x : Int} {N : Nat} (hN : N ≤ 128) (h : x ≠ 0 ∧ -(N : Int) ≤ x ∧ x ≤ N) : 1 ≤ varI x ∧ varI x ≤ N := by
  unfold varI; split <;> (try split) <;> omega
theorem compile_any (N : Nat) (l : List Int) (a : Option Addr) (c : Nat) (h : Heap) (hs : SlT encI 1 a l h) (aT : Option Addr) (cap : Nat) (vs : List HV) (hT : Heap) (ll : LLR aT vs hT) (hth : thE N (vs.map (·.l)) = 0) (hlen : l.length = N) (hof : ofS l = allS N) (h8 : N ≤ 8) (hcost : 2 + costT (vs.map (·.l)) ≤ 1048576) {w0 w : World} {R : Heap} {L : List Heap} (hr : RdH R L h) (rT : RdH R L hT) (hw : H w0 R L w) :
    Calls Tryz.prog 8 #[.agg ⟨[.int .i64 (N : Int), .slice aT vs.length cap]⟩, .slice a l.length c] w fun e w' => ∃ v L', e = .returned v ∧ H w0 R L' w' ∧ ∃ b K s y hO hP, v = .tuple #[.pointer (some ⟨b, 0, none⟩), .int .i64 ((y : Nat) : Int), .int .i64 0] ∧ L' = sF K b s ++ (hO :: hP :: L) ∧ SOk N K s ∧ POk K l hO hP ∧ y < s.ns.length ∧ (∀ α, fn N s.ns y α = thA l (vs.map (·.l)) α) ∧ s.ns.length ≤ 2 + costT (vs.map (·.l)) := by
  have cT := fun w hw => tcheck_any (N : Int) aT cap vs hT ll w hw
  rw [hth] at cT
  have ho := ord_of (by omega) hlen hof
  have hv := (thE_ok.1 hth).2.2
  subst hlen
  have hlit : ∀ v ∈ vs, ∀ x ∈ v.l, ∃ k, rk l (varI x) 0 = some k := fun v hvm x hx => ord_rk (by omega) hof (varI_ok (by omega) ((hv v.l (List.mem_map_of_mem hvm)).2 x hx))
  have cO := fun w hw => of_any a c l h hs (by omega) w hw
  have cA := fun w => all_any l.length (by omega) w
  have hofd : decide (ofS l = allS l.length) = true := decide_eq_true hof
  refine calls_in Tryz.func8 Tryz.ntmps8 rfl rfl (hw) ?_
  repeat' first
    | (refine J.isJ ?_; first | (first | (refine J.o 6 ?_; refine J.bx (fun c2 => ?_)) | (refine J.o 4 ?_; first | refine J.lR hΓ ?_ (hr := Rd.hd)) | (refine J.fc 26 ?_; refine J.call0 eTCheck rfl rfl (fun w hw => cT w (hw.rdH rT.tl)) ?_) | (refine J.fc 20 ?_; refine J.call0 eOf rfl rfl (fun w hw => cO w (hw.rdH hr.tl)) ?_) | (refine J.fc 14 ?_; refine J.call0 eAllV rfl rfl (fun w hw => cA w) ?_) | (refine J.o 11 ?_; refine J.nA (a := ofS l) (b := allS l.length) hΓ ?_; rw [hofd]) | (refine J.fc 27 ?_; refine J.callx eNew rfl rfl (fun w hw => new_any l a c h hs ho hr.tl hw) ?_; rintro _ _ ⟨b0, K, s, hO, hP, rfl, rfl, so, hns, po⟩; have hn2 : s.ns.length = 2 := (by rw [hns]; rfl); unfold sF; simp only [List.cons_append, List.nil_append]) | (refine J.o 7 ?_; refine J.al hΓ (fun c8 => ?_)) | (refine J.o 14 ?_; refine J.mfV [.pointer (some ⟨c2, 0, none⟩), .pointer (some ⟨c8, 0, none⟩)] hΓ ?_) | (refine J.fc 28 ?_; refine J.callx eTry rfl rfl (fun w hw => try_any so (Q := fun s' y => Res l.length K s s' (costT (vs.map (·.l))) y (thA l (vs.map (·.l)))) eComC [] none 0 [] (slNil _) (by show 0 ≤ 1000; omega) (L := [(c8, ptrS b0)] :: hO :: hP :: [(c2, thO (l.length : Int) aT vs.length cap)] :: L) (fun x hx => by cases hx) rfl (fun Lx w hw => comC_any so po h8 (l.length : Int) aT cap vs hT ll hlit (by omega) (RdH.app Lx rT.tl.tl.tl.tl) (RdH.app Lx RdH.hd.tl.tl) (Rd.app Lx Rd.hd.tl.tl.tl) (Rd.app Lx Rd.hd) hw) (H.sel (l := [_, _, _, _, _, _, _, _]) (M := L) hw [1, 2, 3, 4, 0, 5, 6, 7])) ?_; rintro _ _ ⟨s1, y1, rfl, rfl, ad1, f1⟩; unfold ptrS) | (refine J.o 4 ?_; refine J.lR hΓ ?_ (hr := Rd.app _ Rd.hd))) | (first | (refine J.o 0 ?_; refine J.ev' hΓ ?_) | refine J.nil ?_ | (refine J.o 4 ?_; first | refine J.lR hΓ ?_) | (refine J.o 3 ?_; first | refine J.ev' hΓ ?_) | (refine J.o 5 ?_; first | refine J.t0 hΓ ?_) | (refine J.o 6 ?_; refine J.bx (fun _ => ?_)) | (refine J.o 7 ?_; refine J.al hΓ (fun _ => ?_)) | (refine J.o 10 ?_; refine J.ev' hΓ ?_) | (refine J.o 11 ?_; refine J.ev' hΓ ?_)) | ((fail_if_success refine J.wt ?_); refine J.gc rfl rfl (fun hc => ?_) (fun hc => ?_) <;> ((try simp only [decide_eq_true_eq, decide_eq_false_iff_not, beq_iff_eq, beq_eq_false_iff_ne, bne_iff_ne, bne_eq_false_iff_eq, Bool.not_eq_true', Bool.not_eq_false', Bool.not_eq_true, Bool.not_eq_false] at hc) <;> first | (first | (exact absurd rfl hc) | (exfalso; omega) | (exact absurd (hc.symm.trans (by assumption : _ = false)) (by decide)) | (exact absurd (hc.symm.trans (by assumption : _ = true)) (by decide))) | skip)))
    | (first | refine JC.seq ?_ | refine JC.region ?_ | refine JC.ret ?_ | refine JC.skip ?_ | refine thenK.nn ?_ | refine JC.condF rfl ?_ | refine drawK.nn ?_)
    | ((refine JC.drawW [] [] (by kernel_rfl) (by kernel_rfl) ?_))
    | fail
  all_goals first | (exfalso; omega) | skip
  refine ret3f rfl rfl rfl rfl rfl rfl rfl (fun w1 hw => ⟨_, _, rfl, H.sel (l := [_, _, _, _, _, _, _, _]) (M := L) hw [0, 1, 2, 3, 5, 6], b0, K, s1, y1, hO, hP, rfl, rfl, ad1.ok, po, ad1.lt, f1, by have := ad1.le; have h2 : s.ns.length = 2 := (by rw [hns]; rfl); omega⟩)
end Go.Proofs.YtbhgahjeocnfcaaGreat
