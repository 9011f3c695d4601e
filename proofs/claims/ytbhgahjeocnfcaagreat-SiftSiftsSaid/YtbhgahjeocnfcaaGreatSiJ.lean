/- SiftSifts: part 10. -/
import Derived.Test.YtbhgahjeocnfcaaGreatSiI
namespace Go.Proofs.YtbhgahjeocnfcaaGreat
open Go Go.Cx Go.RowKit
set_option linter.unusedVariables false
set_option linter.unusedSimpArgs false
set_option maxHeartbeats 4000000
attribute [local irreducible] J JC thenK blockK loopK roundK drawK retK QW Qt pel List.set Calls
open Go.Maps Go.Lib
set_option maxRecDepth 8000
attribute [local irreducible] JE Br eK0 eK3 brK pc
theorem topT_cons (N : Nat) (t : List Bool) (v : Int) (l : List Int) : topT N t (v :: l) = if depX N t v = true then v else topT N t l := rfl
theorem eTop31 : Entr Tryz.prog 70 := Entr.of Tryz.func70 rfl rfl
theorem eWeights31 : Entr Tryz.prog 41 := Entr.of Tryz.func41 rfl rfl
theorem eMoved31 : Entr Tryz.prog 42 := Entr.of Tryz.func42 rfl rfl
theorem top31_any (N : Nat) (hN : N ≤ 8) (t : List Bool) (ht : t.length = 2 ^ N) (l : List Int) (ho : okOrd l) (hle : ∀ v ∈ l, v ≤ N) (hl8 : l.length ≤ 8) (aT : Option Addr) (cT : Nat) (hT : Heap) (sT : SlT encBo 1 aT t hT) (al : Option Addr) (cl : Nat) (hl : Heap) (sl : SlT encI 1 al l hl) (w : World) (hw1 : Holds (hT ++ hl) w) :
    Calls Tryz.prog 70 #[.slice aT t.length cT, .slice al l.length cl] w fun e w' => e = .returned (.int .i64 (topT N t l)) ∧ Below w.heap.size w w' := by
  have h2n := pow8 hN
  have qT : ∀ L, RdH (hT ++ hl) L hT := fun L => RdH.old fun _ hh => List.mem_append_left _ hh
  have ql : ∀ L, RdH (hT ++ hl) L hl := fun L => RdH.old fun _ hh => List.mem_append_right _ hh
  refine calls_of_JC (R := (hT ++ hl)) Tryz.func70 Tryz.ntmps70 rfl rfl (hw1) ?_
  repeat' first
    | (refine J.isJ ?_; first | (fail) | (first | (refine J.o 0 ?_; refine J.ev' hΓ ?_) | refine J.nil ?_ | refine J.kd ?_ | (refine J.o 4 ?_; first | refine J.lT default hΓ ?_) | (refine J.o 3 ?_; first | refine J.iJ hΓ ?_ | refine J.ev' hΓ ?_) | (refine J.o 1 ?_; first | refine J.ad ?_ | refine J.sb ?_) | (refine J.o 10 ?_; refine J.ev' hΓ ?_) | (refine J.o 11 ?_; refine J.ev' hΓ ?_)) | ((fail_if_success refine J.wt ?_); refine J.gc rfl rfl (fun hc => ?_) (fun hc => ?_) <;> ((try simp only [decide_eq_true_eq, decide_eq_false_iff_not, beq_iff_eq, beq_eq_false_iff_ne, bne_iff_ne, bne_eq_false_iff_eq, Bool.not_eq_true', Bool.not_eq_false', Bool.not_eq_true, Bool.not_eq_false] at hc) <;> first | (first | (exact absurd rfl hc) | (exfalso; omega) | (exact absurd (hc.symm.trans (by assumption : _ = false)) (by decide)) | (exact absurd (hc.symm.trans (by assumption : _ = true)) (by decide))) | skip)))
    | (first | refine JC.seq ?_ | refine JC.region ?_ | refine JC.block ?_ | refine JC.ret ?_ | refine JC.exit ?_ | refine JC.skip ?_ | refine thenK.nn ?_ | refine thenK.r ?_ | refine thenK.x ?_ | refine blockK.nn ?_ | refine blockK.r ?_ | refine blockK.hit rfl ?_ | refine JC.condF rfl ?_ | (refine JC.cond rfl (fun hc => ?_) (fun hc => ?_) <;> ((try simp only [decide_eq_true_eq, decide_eq_false_iff_not, beq_iff_eq, beq_eq_false_iff_ne, bne_iff_ne, bne_eq_false_iff_eq, Bool.not_eq_true', Bool.not_eq_false', Bool.not_eq_true, Bool.not_eq_false] at hc) <;> first | (first | (exact absurd rfl hc) | (exfalso; omega) | (exact absurd (hc.symm.trans (by assumption : _ = false)) (by decide)) | (exact absurd (hc.symm.trans (by assumption : _ = true)) (by decide))) | skip)) | refine drawK.nn ?_ | refine loopK.r ?_ | refine loopK.x ?_)
    | (fail)
    | fail
  all_goals first | (exfalso; omega) | skip
  refine JC.loop (fun i => i == 5 || i == 6 || Nat.ble 7 i) (fun m g L => ∃ (i : Nat), g 5 = .int .i64 (i : Int) ∧ i + m = l.length ∧ topT N t l = topT N t (l.drop i) ∧ L = _) l.length ⟨0, rfl, by omega, rfl, rfl⟩ ?_
  rintro m g L ⟨i, e5, him, htp, rfl⟩
  refine JC.pin 5 e5 ?_
  clear e5
  rcases Nat.lt_or_ge i l.length with hi | hi
  case inr =>
    rw [List.drop_eq_nil_of_le hi] at htp
    repeat' first
      | (refine J.isJ ?_; first | (fail) | (first | (refine J.o 0 ?_; refine J.ev' hΓ ?_) | refine J.nil ?_ | refine J.kd ?_ | (refine J.o 4 ?_; first | refine J.lT default hΓ ?_) | (refine J.o 3 ?_; first | refine J.iJ hΓ ?_ | refine J.ev' hΓ ?_) | (refine J.o 1 ?_; first | refine J.ad ?_ | refine J.sb ?_) | (refine J.o 10 ?_; refine J.ev' hΓ ?_) | (refine J.o 11 ?_; refine J.ev' hΓ ?_)) | ((fail_if_success refine J.wt ?_); refine J.gc rfl rfl (fun hc => ?_) (fun hc => ?_) <;> ((try simp only [decide_eq_true_eq, decide_eq_false_iff_not, beq_iff_eq, beq_eq_false_iff_ne, bne_iff_ne, bne_eq_false_iff_eq, Bool.not_eq_true', Bool.not_eq_false', Bool.not_eq_true, Bool.not_eq_false] at hc) <;> first | (first | (exact absurd rfl hc) | (exfalso; omega) | (exact absurd (hc.symm.trans (by assumption : _ = false)) (by decide)) | (exact absurd (hc.symm.trans (by assumption : _ = true)) (by decide))) | skip)))
      | (first | refine JC.seq ?_ | refine JC.region ?_ | refine JC.block ?_ | refine JC.ret ?_ | refine JC.exit ?_ | refine JC.skip ?_ | refine thenK.nn ?_ | refine thenK.r ?_ | refine thenK.x ?_ | refine blockK.nn ?_ | refine blockK.r ?_ | refine blockK.hit rfl ?_ | refine JC.condF rfl ?_ | (refine JC.cond rfl (fun hc => ?_) (fun hc => ?_) <;> ((try simp only [decide_eq_true_eq, decide_eq_false_iff_not, beq_iff_eq, beq_eq_false_iff_ne, bne_iff_ne, bne_eq_false_iff_eq, Bool.not_eq_true', Bool.not_eq_false', Bool.not_eq_true, Bool.not_eq_false] at hc) <;> first | (first | (exact absurd rfl hc) | (exfalso; omega) | (exact absurd (hc.symm.trans (by assumption : _ = false)) (by decide)) | (exact absurd (hc.symm.trans (by assumption : _ = true)) (by decide))) | skip)) | refine drawK.nn ?_ | refine loopK.r ?_ | refine loopK.x ?_)
      | (fail)
      | fail
    all_goals first | (exfalso; omega) | exact ret1f rfl rfl rfl (fun w1 hw => ⟨by rw [htp]; rfl, hw.below⟩)
  have hv := ho.1 _ (mem_g l i hi)
  have hvN := hle _ (mem_g l i hi)
  rw [drop_g l i hi, topT_cons] at htp
  obtain ⟨v, hvd⟩ : ∃ v, l.getD i default = v := ⟨_, rfl⟩
  rw [hvd] at hv hvN htp
  repeat' first
    | (refine J.isJ ?_; first | (first | (refine J.o 3 ?_; refine J.iJ hΓ ?_ (hs := sl)) | (refine J.o 4 ?_; refine J.lT default hΓ ?_ (hs := sl) (hr := ql _); rw [hvd]) | (refine J.o 2 ?_; refine J.cv _ hΓ ?_) | (refine J.o 1 ?_; refine J.s2 ?_)) | (first | (refine J.o 0 ?_; refine J.ev' hΓ ?_) | refine J.nil ?_ | refine J.kd ?_ | (refine J.o 4 ?_; first | refine J.lT default hΓ ?_) | (refine J.o 3 ?_; first | refine J.iJ hΓ ?_ | refine J.ev' hΓ ?_) | (refine J.o 1 ?_; first | refine J.ad ?_ | refine J.sb ?_) | (refine J.o 10 ?_; refine J.ev' hΓ ?_) | (refine J.o 11 ?_; refine J.ev' hΓ ?_)) | ((fail_if_success refine J.wt ?_); refine J.gc rfl rfl (fun hc => ?_) (fun hc => ?_) <;> ((try simp only [decide_eq_true_eq, decide_eq_false_iff_not, beq_iff_eq, beq_eq_false_iff_ne, bne_iff_ne, bne_eq_false_iff_eq, Bool.not_eq_true', Bool.not_eq_false', Bool.not_eq_true, Bool.not_eq_false] at hc) <;> first | (first | (exact absurd rfl hc) | (exfalso; omega) | (exact absurd (hc.symm.trans (by assumption : _ = false)) (by decide)) | (exact absurd (hc.symm.trans (by assumption : _ = true)) (by decide))) | skip)))
    | (first | refine JC.seq ?_ | refine JC.region ?_ | refine JC.block ?_ | refine JC.ret ?_ | refine JC.exit ?_ | refine JC.skip ?_ | refine thenK.nn ?_ | refine thenK.r ?_ | refine thenK.x ?_ | refine blockK.nn ?_ | refine blockK.r ?_ | refine blockK.hit rfl ?_ | refine JC.condF rfl ?_ | (refine JC.cond rfl (fun hc => ?_) (fun hc => ?_) <;> ((try simp only [decide_eq_true_eq, decide_eq_false_iff_not, beq_iff_eq, beq_eq_false_iff_ne, bne_iff_ne, bne_eq_false_iff_eq, Bool.not_eq_true', Bool.not_eq_false', Bool.not_eq_true, Bool.not_eq_false] at hc) <;> first | (first | (exact absurd rfl hc) | (exfalso; omega) | (exact absurd (hc.symm.trans (by assumption : _ = false)) (by decide)) | (exact absurd (hc.symm.trans (by assumption : _ = true)) (by decide))) | skip)) | refine drawK.nn ?_ | refine loopK.r ?_ | refine loopK.x ?_)
    | (fail)
    | fail
  all_goals first | (exfalso; omega) | skip
  obtain ⟨B, hB⟩ : ∃ B, 2 ^ (v - 1).toNat = B := ⟨_, rfl⟩
  have hB0 : 0 < B := hB ▸ Nat.two_pow_pos _
  have hB7 : 2 ^ (v - 1).toNat ≤ 2 ^ 7 := Nat.pow_le_pow_right (by decide) (by omega)
  rw [hB] at hB7 ⊢
  refine JC.loop (fun i => i == 7 || Nat.ble 21 i) (fun m g L => ∃ (x : Nat), g 7 = .int .i64 (x : Int) ∧ x + m = 2 ^ N ∧ ((List.range x).any fun y => !y.testBit (v - 1).toNat && (t.getD y default != t.getD (y + 2 ^ (v - 1).toNat) default)) = false ∧ L = _) (2 ^ N) ⟨0, rfl, by omega, rfl, rfl⟩ ?_
  rintro m2 g2 L2 ⟨x, e7, hxm, hany, rfl⟩
  refine JC.pin 7 e7 ?_
  clear e7
  rcases Nat.lt_or_ge x (2 ^ N) with hx | hx
  case inr =>
    obtain rfl : x = 2 ^ N := by omega
    rw [if_neg (by unfold depX; rw [hany]; decide)] at htp
    repeat' first
      | (refine J.isJ ?_; first | (fail) | (first | (refine J.o 0 ?_; refine J.ev' hΓ ?_) | refine J.nil ?_ | refine J.kd ?_ | (refine J.o 4 ?_; first | refine J.lT default hΓ ?_) | (refine J.o 3 ?_; first | refine J.iJ hΓ ?_ | refine J.ev' hΓ ?_) | (refine J.o 1 ?_; first | refine J.ad ?_ | refine J.sb ?_) | (refine J.o 10 ?_; refine J.ev' hΓ ?_) | (refine J.o 11 ?_; refine J.ev' hΓ ?_)) | ((fail_if_success refine J.wt ?_); refine J.gc rfl rfl (fun hc => ?_) (fun hc => ?_) <;> ((try simp only [decide_eq_true_eq, decide_eq_false_iff_not, beq_iff_eq, beq_eq_false_iff_ne, bne_iff_ne, bne_eq_false_iff_eq, Bool.not_eq_true', Bool.not_eq_false', Bool.not_eq_true, Bool.not_eq_false] at hc) <;> first | (first | (exact absurd rfl hc) | (exfalso; omega) | (exact absurd (hc.symm.trans (by assumption : _ = false)) (by decide)) | (exact absurd (hc.symm.trans (by assumption : _ = true)) (by decide))) | skip)))
      | (first | refine JC.seq ?_ | refine JC.region ?_ | refine JC.block ?_ | refine JC.ret ?_ | refine JC.exit ?_ | refine JC.skip ?_ | refine thenK.nn ?_ | refine thenK.r ?_ | refine thenK.x ?_ | refine blockK.nn ?_ | refine blockK.r ?_ | refine blockK.hit rfl ?_ | refine JC.condF rfl ?_ | (refine JC.cond rfl (fun hc => ?_) (fun hc => ?_) <;> ((try simp only [decide_eq_true_eq, decide_eq_false_iff_not, beq_iff_eq, beq_eq_false_iff_ne, bne_iff_ne, bne_eq_false_iff_eq, Bool.not_eq_true', Bool.not_eq_false', Bool.not_eq_true, Bool.not_eq_false] at hc) <;> first | (first | (exact absurd rfl hc) | (exfalso; omega) | (exact absurd (hc.symm.trans (by assumption : _ = false)) (by decide)) | (exact absurd (hc.symm.trans (by assumption : _ = true)) (by decide))) | skip)) | refine drawK.nn ?_ | refine loopK.r ?_ | refine loopK.x ?_)
      | (fail)
      | fail
    all_goals first | (exfalso; omega) | skip
    refine loopK.nn (m - 1) (by omega) (by repeat (first | refine Ag.upd rfl ?_ | exact Ag.hv | refine Ag.hv2 (fun i hi => by simp at hi ⊢; omega) ?_)) ⟨i + 1, ?_, by omega, htp, rfl⟩
    show Value.int .i64 _ = _; congr 1
  have hdv := Nat.div_le_self x B
  have hsx : ((List.range (x + 1)).any fun y => !y.testBit (v - 1).toNat && (t.getD y default != t.getD (y + 2 ^ (v - 1).toNat) default)) = (!x.testBit (v - 1).toNat && (t.getD x default != t.getD (x + B) default)) := by
    rw [List.range_succ, List.any_append, hany, List.any_cons, List.any_nil, Bool.or_false, Bool.false_or, hB]
  cases hb : x.testBit (v - 1).toNat with
  | true =>
    have hx1 : x / B % 2 = 1 := by
      rw [Nat.testBit_eq_decide_div_mod_eq, hB] at hb
      exact of_decide_eq_true hb
    rw [hb, Bool.not_true, Bool.false_and] at hsx
    repeat' first
      | (refine J.isJ ?_; first | ((refine J.o 1 ?_; first | refine J.gquo (a := x) (b := B) ?_ (hw := wI64 (by omega)) | refine J.grem (a := x / B) (b := 2) ?_)) | (first | (refine J.o 0 ?_; refine J.ev' hΓ ?_) | refine J.nil ?_ | refine J.kd ?_ | (refine J.o 4 ?_; first | refine J.lT default hΓ ?_) | (refine J.o 3 ?_; first | refine J.iJ hΓ ?_ | refine J.ev' hΓ ?_) | (refine J.o 1 ?_; first | refine J.ad ?_ | refine J.sb ?_) | (refine J.o 10 ?_; refine J.ev' hΓ ?_) | (refine J.o 11 ?_; refine J.ev' hΓ ?_)) | ((fail_if_success refine J.wt ?_); refine J.gc rfl rfl (fun hc => ?_) (fun hc => ?_) <;> ((try simp only [decide_eq_true_eq, decide_eq_false_iff_not, beq_iff_eq, beq_eq_false_iff_ne, bne_iff_ne, bne_eq_false_iff_eq, Bool.not_eq_true', Bool.not_eq_false', Bool.not_eq_true, Bool.not_eq_false] at hc) <;> first | (first | (exact absurd rfl hc) | (exfalso; omega) | (exact absurd (hc.symm.trans (by assumption : _ = false)) (by decide)) | (exact absurd (hc.symm.trans (by assumption : _ = true)) (by decide))) | skip)))
      | (first | refine JC.seq ?_ | refine JC.region ?_ | refine JC.block ?_ | refine JC.ret ?_ | refine JC.exit ?_ | refine JC.skip ?_ | refine thenK.nn ?_ | refine thenK.r ?_ | refine thenK.x ?_ | refine blockK.nn ?_ | refine blockK.r ?_ | refine blockK.hit rfl ?_ | refine JC.condF rfl ?_ | (refine JC.cond rfl (fun hc => ?_) (fun hc => ?_) <;> ((try simp only [decide_eq_true_eq, decide_eq_false_iff_not, beq_iff_eq, beq_eq_false_iff_ne, bne_iff_ne, bne_eq_false_iff_eq, Bool.not_eq_true', Bool.not_eq_false', Bool.not_eq_true, Bool.not_eq_false] at hc) <;> first | (first | (exact absurd rfl hc) | (exfalso; omega) | (exact absurd (hc.symm.trans (by assumption : _ = false)) (by decide)) | (exact absurd (hc.symm.trans (by assumption : _ = true)) (by decide))) | skip)) | refine drawK.nn ?_ | refine loopK.r ?_ | refine loopK.x ?_)
      | ((refine JC.drawA [] (by decide +kernel) (by decide +kernel) ?_))
      | fail
    all_goals first | (exfalso; omega) | skip
    refine loopK.nn (m2 - 1) (by omega) (by repeat (first | refine Ag.upd rfl ?_ | exact Ag.hv | refine Ag.hv2 (fun i hi => by simp at hi ⊢; omega) ?_)) ⟨x + 1, ?_, by omega, hsx, rfl⟩
    show Value.int .i64 _ = _; congr 1
  | false =>
    have hx1 : x / B % 2 = 0 := by
      rw [Nat.testBit_eq_decide_div_mod_eq, hB] at hb
      have := of_decide_eq_false hb
      omega
    have hxB : x + B < 2 ^ N := hB ▸ add_lt hv.1 hvN hx hb
    have hq : ((x : Int) + (B : Int)).toNat = x + B := by omega
    rw [hb, Bool.not_false, Bool.true_and] at hsx
    obtain ⟨r, hr⟩ : ∃ r, (t.getD x default != t.getD (x + B) default) = r := ⟨_, rfl⟩
    rw [hr] at hsx
    repeat' first
      | (refine J.isJ ?_; first | (first | (refine J.o 1 ?_; first | refine J.gquo (a := x) (b := B) ?_ (hw := wI64 (by omega)) | refine J.grem (a := x / B) (b := 2) ?_) | (refine J.o 3 ?_; first | refine J.iJ hΓ ?_ (hs := sT) | refine J.iJ hΓ ?_ (hs := sl)) | (refine J.o 4 ?_; first | refine J.lT default hΓ ?_ (hs := sT) (hr := qT _) | (refine J.lT default hΓ ?_ (hs := sl) (hr := ql _); rw [hvd])) | (refine J.o 11 ?_; refine J.ev' hΓ ?_; first | (rw [hq, hr]) | skip)) | (first | (refine J.o 0 ?_; refine J.ev' hΓ ?_) | refine J.nil ?_ | refine J.kd ?_ | (refine J.o 4 ?_; first | refine J.lT default hΓ ?_) | (refine J.o 3 ?_; first | refine J.iJ hΓ ?_ | refine J.ev' hΓ ?_) | (refine J.o 1 ?_; first | refine J.ad ?_ | refine J.sb ?_) | (refine J.o 10 ?_; refine J.ev' hΓ ?_) | (refine J.o 11 ?_; refine J.ev' hΓ ?_)) | ((fail_if_success refine J.wt ?_); refine J.gc rfl rfl (fun hc => ?_) (fun hc => ?_) <;> ((try simp only [decide_eq_true_eq, decide_eq_false_iff_not, beq_iff_eq, beq_eq_false_iff_ne, bne_iff_ne, bne_eq_false_iff_eq, Bool.not_eq_true', Bool.not_eq_false', Bool.not_eq_true, Bool.not_eq_false] at hc) <;> first | (first | (exact absurd rfl hc) | (exfalso; omega) | (exact absurd (hc.symm.trans (by assumption : _ = false)) (by decide)) | (exact absurd (hc.symm.trans (by assumption : _ = true)) (by decide))) | skip)))
      | (first | refine JC.seq ?_ | refine JC.region ?_ | refine JC.block ?_ | refine JC.ret ?_ | refine JC.exit ?_ | refine JC.skip ?_ | refine thenK.nn ?_ | refine thenK.r ?_ | refine thenK.x ?_ | refine blockK.nn ?_ | refine blockK.r ?_ | refine blockK.hit rfl ?_ | refine JC.condF rfl ?_ | (refine JC.cond rfl (fun hc => ?_) (fun hc => ?_) <;> ((try simp only [decide_eq_true_eq, decide_eq_false_iff_not, beq_iff_eq, beq_eq_false_iff_ne, bne_iff_ne, bne_eq_false_iff_eq, Bool.not_eq_true', Bool.not_eq_false', Bool.not_eq_true, Bool.not_eq_false] at hc) <;> first | (first | (exact absurd rfl hc) | (exfalso; omega) | (exact absurd (hc.symm.trans (by assumption : _ = false)) (by decide)) | (exact absurd (hc.symm.trans (by assumption : _ = true)) (by decide))) | skip)) | refine drawK.nn ?_ | refine loopK.r ?_ | refine loopK.x ?_)
      | ((refine JC.drawA [] (by decide +kernel) (by decide +kernel) ?_))
      | fail
    all_goals first | (exfalso; omega) | skip
    · rw [hq] at hc
      have hd : depX N t v = true := by
        unfold depX
        refine List.any_eq_true.2 ⟨x, List.mem_range.2 hx, ?_⟩
        rw [hb, hB]
        simpa using hc
      rw [if_pos hd] at htp
      exact ret1f rfl rfl rfl (fun w1 hw => ⟨by rw [htp], hw.below⟩)
    · rw [hq] at hc
      have hr2 : r = false := by rw [← hr, hc]; simp
      rw [hr2] at hsx
      refine loopK.nn (m2 - 1) (by omega) (by repeat (first | refine Ag.upd rfl ?_ | exact Ag.hv | refine Ag.hv2 (fun i hi => by simp at hi ⊢; omega) ?_)) ⟨x + 1, ?_, by omega, hsx, rfl⟩
      show Value.int .i64 _ = _; congr 1
theorem topT_rng {N : Nat} {t : List Bool} : ∀ {l : List Int}, (∀ v ∈ l, 1 ≤ v ∧ v ≤ N) → 0 ≤ topT N t l ∧ topT N t l ≤ N
  | [], _ => by unfold topT; omega
  | v :: l, h => by
    rw [topT_cons]
    split
    · have := h v List.mem_cons_self; omega
    · exact topT_rng fun u hu => h u (List.mem_cons_of_mem _ hu)
def cntT (N : Nat) (l : List Int) (T : List (List Bool)) (v : Int) : Nat := (T.filter fun t => decide (topT N t l = v)).length
theorem cntT_snoc (N : Nat) (l : List Int) (T : List (List Bool)) (t : List Bool) (v : Int) : cntT N l (T ++ [t]) v = cntT N l T v + if topT N t l = v then 1 else 0 := by
  unfold cntT
  rw [List.filter_append, List.length_append, List.filter_cons]
  split
  · rename_i h; rw [if_pos (of_decide_eq_true h)]; rfl
  · rename_i h; rw [if_neg (fun e => h (decide_eq_true e))]; rfl
theorem cntT_le (N : Nat) (l : List Int) (T : List (List Bool)) (v : Int) : cntT N l T v ≤ T.length := List.length_filter_le _ _
theorem weights31_any (N : Nat) (hN : N ≤ 8) (F : VF) (l : List Int) (ho : okOrd l) (hle : ∀ v ∈ l, v ≤ N) (hl8 : l.length ≤ 8) (hnT : (nodesT N l F (l.length + 1)).length ≤ 100000) (al : Option Addr) (cl : Nat) (hl : Heap) (hsl : SlT encI 1 al l hl) (aF : Option Addr) (cF : Nat) (hF : Heap) (hsF : SlT encBo 1 aF (tabX N F) hF) (w : World) (hw1 : Holds (hl ++ hF) w) :
    Calls Tryz.prog 41 #[.agg ⟨[.int .i64 (N : Int), .slice aF (2 ^ N) cF]⟩, .slice al l.length cl] w (Gives (fun v h => ∃ (a : Option Addr) (c : Nat) (o : List Int), v = .slice a (N + 1) c ∧ o.length = N + 1 ∧ (∀ u : Nat, 1 ≤ u → u ≤ N → o.getD u default = (cntT N l (nodesT N l F (l.length + 1)) (u : Int) : Nat)) ∧ OwT encI 1 3 a c o h) w) := by
  have q0 : ∀ L, RdH (hl ++ hF) L hl := fun L => RdH.old fun _ hh => List.mem_append_left _ hh
  have hrng : ∀ v ∈ l, 1 ≤ v ∧ v ≤ N := fun v hv => ⟨(ho.1 v hv).1, hle v hv⟩
  refine calls_of_JC (R := (hl ++ hF)) Tryz.func41 Tryz.ntmps41 rfl rfl (hw1) ?_
  repeat' first
    | (refine J.isJ ?_; first | (first | (refine J.o 6 ?_; refine J.bx (fun _ => ?_)) | (refine J.o 1 ?_; refine J.gadd (a := N) (b := 1) ?_ (hw := wI64 (by omega))) | (refine J.o 9 ?_; refine J.make (enc := encI) (m := N + 1) (0 : Int) hΓ rfl rfl rfl rfl rfl rfl (fun _ => rfl) (by omega) (by omega) (fun bp hp0 op0 => ?_)) | (refine J.o 4 ?_; first | refine J.lR hΓ ?_ (hr := Rd.hd) | refine J.lR hΓ ?_ (hr := Rd.hd.tl)) | (refine J.fc 69 ?_; refine J.call1 eNodes31 rfl rfl (fun w hw => nodes31_any N hN F l ho hle hl8 al cl hl hsl aF cF hF hsF w (hw.rdH (RdH.old fun _ hh => hh))) ?_; rintro _ hR ⟨a, c, vs, rfl, hT, oO, sI⟩)) | (first | (refine J.o 0 ?_; refine J.ev' hΓ ?_) | refine J.nil ?_ | (refine J.o 4 ?_; first | refine J.lT default hΓ ?_ | refine J.lR hΓ ?_) | (refine J.o 3 ?_; first | refine J.iJ hΓ ?_ | refine J.ev' hΓ ?_) | (refine J.o 1 ?_; first | refine J.ad ?_) | (refine J.o 5 ?_; first | refine J.tT1 _ default hΓ (fun _ _ => ?_)) | (refine J.o 6 ?_; refine J.bx (fun _ => ?_)) | (refine J.o 10 ?_; refine J.ev' hΓ ?_) | (refine J.o 11 ?_; refine J.ev' hΓ ?_)))
    | (first | refine JC.seq ?_ | refine JC.region ?_ | refine JC.block ?_ | refine JC.ret ?_ | refine JC.exit ?_ | refine JC.skip ?_ | refine thenK.nn ?_ | refine thenK.x ?_ | refine blockK.nn ?_ | refine blockK.hit rfl ?_ | (refine JC.cond rfl (fun hc => ?_) (fun hc => ?_) <;> ((try simp only [decide_eq_true_eq, decide_eq_false_iff_not, beq_iff_eq, beq_eq_false_iff_ne, bne_iff_ne, bne_eq_false_iff_eq, Bool.not_eq_true', Bool.not_eq_false', Bool.not_eq_true, Bool.not_eq_false] at hc) <;> first | (first | (exact absurd rfl hc) | (exfalso; omega) | (exact absurd (hc.symm.trans (by assumption : _ = false)) (by decide)) | (exact absurd (hc.symm.trans (by assumption : _ = true)) (by decide))) | skip)) | refine loopK.x ?_)
    | (fail)
    | fail
  all_goals first | (exfalso; omega) | skip
  obtain ⟨T, hTd⟩ : ∃ T, nodesT N l F (l.length + 1) = T := ⟨_, rfl⟩
  rw [hTd] at hT hnT ⊢
  have hvl : vs.length = T.length := by rw [← hT, List.length_map]
  refine JC.loop (fun i => i == 7 || Nat.ble 15 i) (fun m g L' => ∃ (k : Nat) (o : List Int) (h : Heap), g 7 = .int .i64 (k : Int) ∧ k + m = vs.length ∧ o.length = N + 1 ∧ (∀ u : Nat, u ≤ N → o.getD u default = (cntT N l (T.take k) (u : Int) : Nat)) ∧ OwT encI 1 3 (some ⟨bp, 0, none⟩) (N + 1) o h ∧ L' = hR :: h :: [_]) vs.length ⟨0, _, _, rfl, by omega, by simp, fun u hu => ?_, op0, rfl⟩ ?_
  · rw [List.take_zero, List.getD_eq_getElem?_getD, List.getElem?_replicate, if_pos (by omega)]
    rfl
  clear op0 hp0
  rintro m g _ ⟨k, o, h, e7, hkm, hol, hou, oo, rfl⟩
  refine JC.pin 7 e7 ?_
  clear e7
  rcases Nat.lt_or_ge k vs.length with hk | hk
  case inr =>
    rw [List.take_of_length_le (by omega)] at hou
    repeat' first
      | (refine J.isJ ?_; first | (fail) | (first | (refine J.o 0 ?_; refine J.ev' hΓ ?_) | refine J.nil ?_ | (refine J.o 4 ?_; first | refine J.lT default hΓ ?_ | refine J.lR hΓ ?_) | (refine J.o 3 ?_; first | refine J.iJ hΓ ?_ | refine J.ev' hΓ ?_) | (refine J.o 1 ?_; first | refine J.ad ?_) | (refine J.o 5 ?_; first | refine J.tT1 _ default hΓ (fun _ _ => ?_)) | (refine J.o 6 ?_; refine J.bx (fun _ => ?_)) | (refine J.o 10 ?_; refine J.ev' hΓ ?_) | (refine J.o 11 ?_; refine J.ev' hΓ ?_)))
      | (first | refine JC.seq ?_ | refine JC.region ?_ | refine JC.block ?_ | refine JC.ret ?_ | refine JC.exit ?_ | refine JC.skip ?_ | refine thenK.nn ?_ | refine thenK.x ?_ | refine blockK.nn ?_ | refine blockK.hit rfl ?_ | (refine JC.cond rfl (fun hc => ?_) (fun hc => ?_) <;> ((try simp only [decide_eq_true_eq, decide_eq_false_iff_not, beq_iff_eq, beq_eq_false_iff_ne, bne_iff_ne, bne_eq_false_iff_eq, Bool.not_eq_true', Bool.not_eq_false', Bool.not_eq_true, Bool.not_eq_false] at hc) <;> first | (first | (exact absurd rfl hc) | (exfalso; omega) | (exact absurd (hc.symm.trans (by assumption : _ = false)) (by decide)) | (exact absurd (hc.symm.trans (by assumption : _ = true)) (by decide))) | skip)) | refine loopK.x ?_)
      | (fail)
      | fail
    all_goals first | (exfalso; omega) | skip
    exact ret1f rfl rfl rfl (fun w1 hw => Gives.of (H.sel (l := [_, _, _]) (M := []) hw [1]) ⟨_, _, o, rfl, hol, fun u h1 h2 => hou u h2, oo⟩)
  obtain ⟨h1, h2⟩ := sI _ (mem_g vs k hk)
  have hTk : T.getD k default = (vs.getD k default).l := by rw [← hT, map_getD (·.l) vs hk]
  have hrg := topT_rng (t := (vs.getD k default).l) hrng
  have cT := fun w hw => top31_any N hN (vs.getD k default).l h1 l ho hle hl8 (vs.getD k default).a (vs.getD k default).c hR h2 al cl hl hsl w hw
  have hst := fun u => cntT_snoc N l (T.take k) (T.getD k default) u
  rw [← take_g T k (by omega), hTk] at hst
  obtain ⟨tp, htp⟩ : ∃ tp, topT N (vs.getD k default).l l = tp := ⟨_, rfl⟩
  rw [htp] at hrg cT hst
  have hcl := cntT_le N l (T.take k) tp
  rw [List.length_take] at hcl
  have hot := hou tp.toNat (by omega)
  rw [show ((tp.toNat : Nat) : Int) = tp by omega] at hot
  repeat' first
    | (refine J.isJ ?_; first | (first | (refine J.o 3 ?_; first | refine J.iJ hΓ ?_ (hs := oO) | refine J.iJ hΓ ?_ (hs := oo.sl)) | (refine J.o 4 ?_; first | refine J.lT default hΓ ?_ (hs := oO) (hr := RdH.hd) | refine J.lT default hΓ ?_ (hs := oo.sl) (hr := RdH.hd.tl)) | (refine J.fc 70 ?_; refine J.call0 eTop31 rfl rfl (fun w hw => cT w ((hw.rdH RdH.hd).append (hw.rdH (q0 _)))) ?_) | (refine J.o 5 ?_; first | refine J.tT1 (enc := encI) (o.getD tp.toNat default + 1) default hΓ (fun h5 o5 => ?_) (ho := oo))) | (first | (refine J.o 0 ?_; refine J.ev' hΓ ?_) | refine J.nil ?_ | (refine J.o 4 ?_; first | refine J.lT default hΓ ?_ | refine J.lR hΓ ?_) | (refine J.o 3 ?_; first | refine J.iJ hΓ ?_ | refine J.ev' hΓ ?_) | (refine J.o 1 ?_; first | refine J.ad ?_) | (refine J.o 5 ?_; first | refine J.tT1 _ default hΓ (fun _ _ => ?_)) | (refine J.o 6 ?_; refine J.bx (fun _ => ?_)) | (refine J.o 10 ?_; refine J.ev' hΓ ?_) | (refine J.o 11 ?_; refine J.ev' hΓ ?_)))
    | (first | refine JC.seq ?_ | refine JC.region ?_ | refine JC.block ?_ | refine JC.ret ?_ | refine JC.exit ?_ | refine JC.skip ?_ | refine thenK.nn ?_ | refine thenK.x ?_ | refine blockK.nn ?_ | refine blockK.hit rfl ?_ | (refine JC.cond rfl (fun hc => ?_) (fun hc => ?_) <;> ((try simp only [decide_eq_true_eq, decide_eq_false_iff_not, beq_iff_eq, beq_eq_false_iff_ne, bne_iff_ne, bne_eq_false_iff_eq, Bool.not_eq_true', Bool.not_eq_false', Bool.not_eq_true, Bool.not_eq_false] at hc) <;> first | (first | (exact absurd rfl hc) | (exfalso; omega) | (exact absurd (hc.symm.trans (by assumption : _ = false)) (by decide)) | (exact absurd (hc.symm.trans (by assumption : _ = true)) (by decide))) | skip)) | refine loopK.x ?_)
    | (fail)
    | fail
  all_goals first | (exfalso; omega) | skip
  refine loopK.nn (m - 1) (by omega) (by repeat (first | refine Ag.upd rfl ?_ | exact Ag.hv | refine Ag.hv2 (fun i hi => by simp at hi ⊢; omega) ?_)) ⟨k + 1, _, h5, ?_, by omega, by rw [List.length_set]; exact hol, fun u hu => ?_, o5, rfl⟩
  · show Value.int .i64 _ = _; congr 1
  · rw [hst, List.getD_eq_getElem?_getD, List.getElem?_set]
    by_cases e : tp.toNat = u
    · subst e
      rw [if_pos rfl, if_pos (by omega), if_pos (by omega)]
      show o.getD tp.toNat default + 1 = _
      rw [hot, show ((tp.toNat : Nat) : Int) = tp by omega]
      omega
    · rw [if_neg e, if_neg (by omega)]
      exact hou u hu
theorem wo_snoc (l : List Int) (v x : Int) : wo (l ++ [x]) v = if x = v then wo l v else wo l v ++ [x] := by
  unfold wo
  rw [List.filter_append, List.filter_cons]
  by_cases h : x = v
  · simp [h]
  · simp [h]
theorem moved31_any (l : List Int) (v : Int) (p : Nat) (hp : p ≤ (wo l v).length) (hl : l.length ≤ 100) (a : Option Addr) (c : Nat) (h : Heap) (sl : SlT encI 1 a l h) (w : World) (hw1 : Holds h w) :
    Calls Tryz.prog 42 #[.slice a l.length c, .int .i64 v, .int .i64 (p : Int)] w (Gives (Sls encI 1 3 (insAt (wo l v) p v)) w) := by
  have q0 : ∀ L, RdH h L h := fun L => RdH.old fun _ hh => hh
  have hwl : (wo l v).length ≤ l.length := List.length_filter_le _ _
  refine calls_of_JC (R := h) Tryz.func42 Tryz.ntmps42 rfl rfl (hw1) ?_
  repeat' first
    | (refine J.isJ ?_; first | (fail) | (first | (refine J.o 0 ?_; refine J.ev' hΓ ?_) | refine J.nil ?_ | (refine J.o 4 ?_; first | refine J.lT default hΓ ?_) | (refine J.o 3 ?_; first | refine J.iJ hΓ ?_ | refine J.ev' hΓ ?_) | (refine J.o 1 ?_; first | refine J.ad ?_) | (refine J.o 9 ?_; refine J.bl hΓ (fun _ => ?_)) | (refine J.o 10 ?_; refine J.ev' hΓ ?_) | (refine J.o 11 ?_; refine J.ev' hΓ ?_)))
    | (first | refine JC.seq ?_ | refine JC.region ?_ | refine JC.block ?_ | refine JC.ret ?_ | refine JC.exit ?_ | refine JC.skip ?_ | refine thenK.nn ?_ | refine thenK.x ?_ | refine blockK.nn ?_ | refine blockK.hit rfl ?_ | (refine JC.cond rfl (fun hc => ?_) (fun hc => ?_) <;> ((try simp only [decide_eq_true_eq, decide_eq_false_iff_not, beq_iff_eq, beq_eq_false_iff_ne, bne_iff_ne, bne_eq_false_iff_eq, Bool.not_eq_true', Bool.not_eq_false', Bool.not_eq_true, Bool.not_eq_false] at hc) <;> first | (first | (exact absurd rfl hc) | (exfalso; omega) | (exact absurd (hc.symm.trans (by assumption : _ = false)) (by decide)) | (exact absurd (hc.symm.trans (by assumption : _ = true)) (by decide))) | skip)) | refine loopK.x ?_)
    | (fail)
    | fail
  all_goals first | (exfalso; omega) | skip
  refine JC.nilF ?_
  refine JC.loop (fun i => i == 7 || Nat.ble 9 i) (fun m g L' => ∃ (i : Nat) (aR : Option Addr) (cR : Nat) (hR : Heap), g 9 = .int .i64 (i : Int) ∧ g 7 = .slice aR (wo (l.take i) v).length cR ∧ i + m = l.length ∧ OwT encI 1 3 aR cR (wo (l.take i) v) hR ∧ L' = [hR]) l.length ⟨0, none, 0, [], rfl, rfl, by omega, OwT.nil (fun _ => rfl), rfl⟩ ?_
  rintro m g _ ⟨i, aR, cR, hR, e9, e7, him, oR, rfl⟩
  refine JC.pin 9 e9 (JC.pin 7 e7 ?_)
  clear e9 e7
  rcases Nat.lt_or_ge i l.length with hi | hi
  case inl =>
    have hil : (wo (l.take i) v).length ≤ i := Nat.le_trans (List.length_filter_le _ _) (by rw [List.length_take]; omega)
    have hsn := wo_snoc (l.take i) v (l.getD i default)
    rw [← take_g l i hi] at hsn
    by_cases hx : l.getD i default = v
    · rw [if_pos hx] at hsn
      repeat' first
        | (refine J.isJ ?_; first | (first | (refine J.o 3 ?_; refine J.iJ hΓ ?_ (hs := sl)) | (refine J.o 4 ?_; refine J.lT default hΓ ?_ (hs := sl) (hr := q0 _))) | (first | (refine J.o 0 ?_; refine J.ev' hΓ ?_) | refine J.nil ?_ | (refine J.o 4 ?_; first | refine J.lT default hΓ ?_) | (refine J.o 3 ?_; first | refine J.iJ hΓ ?_ | refine J.ev' hΓ ?_) | (refine J.o 1 ?_; first | refine J.ad ?_) | (refine J.o 9 ?_; refine J.bl hΓ (fun _ => ?_)) | (refine J.o 10 ?_; refine J.ev' hΓ ?_) | (refine J.o 11 ?_; refine J.ev' hΓ ?_)))
        | (first | refine JC.seq ?_ | refine JC.region ?_ | refine JC.block ?_ | refine JC.ret ?_ | refine JC.exit ?_ | refine JC.skip ?_ | refine thenK.nn ?_ | refine thenK.x ?_ | refine blockK.nn ?_ | refine blockK.hit rfl ?_ | (refine JC.cond rfl (fun hc => ?_) (fun hc => ?_) <;> ((try simp only [decide_eq_true_eq, decide_eq_false_iff_not, beq_iff_eq, beq_eq_false_iff_ne, bne_iff_ne, bne_eq_false_iff_eq, Bool.not_eq_true', Bool.not_eq_false', Bool.not_eq_true, Bool.not_eq_false] at hc) <;> first | (first | (exact absurd rfl hc) | (exfalso; omega) | (exact absurd (hc.symm.trans (by assumption : _ = false)) (by decide)) | (exact absurd (hc.symm.trans (by assumption : _ = true)) (by decide))) | skip)) | refine loopK.x ?_)
        | (fail)
        | fail
      all_goals first | (exfalso; omega) | skip
      refine loopK.nn (m - 1) (by omega) (by repeat (first | refine Ag.upd rfl ?_ | exact Ag.hv | refine Ag.hv2 (fun i hi => by simp at hi ⊢; omega) ?_)) ⟨i + 1, aR, cR, hR, ?_, by rw [hsn]; rfl, by omega, by rw [hsn]; exact oR, rfl⟩
      show Value.int .i64 _ = _; congr 1
    · rw [if_neg hx] at hsn
      repeat' first
        | (refine J.isJ ?_; first | (first | (refine J.o 3 ?_; refine J.iJ hΓ ?_ (hs := sl)) | (refine J.o 4 ?_; refine J.lT default hΓ ?_ (hs := sl) (hr := by first | exact q0 _)) | (refine J.o 9 ?_; first | (first | (refine J.ap1 (enc := encI) [l.getD i default] hΓ (fun a2 c2 h2 o2 => ?_))))) | (first | (refine J.o 0 ?_; refine J.ev' hΓ ?_) | refine J.nil ?_ | (refine J.o 4 ?_; first | refine J.lT default hΓ ?_) | (refine J.o 3 ?_; first | refine J.iJ hΓ ?_ | refine J.ev' hΓ ?_) | (refine J.o 1 ?_; first | refine J.ad ?_) | (refine J.o 9 ?_; refine J.bl hΓ (fun _ => ?_)) | (refine J.o 10 ?_; refine J.ev' hΓ ?_) | (refine J.o 11 ?_; refine J.ev' hΓ ?_)))
        | (first | refine JC.seq ?_ | refine JC.region ?_ | refine JC.block ?_ | refine JC.ret ?_ | refine JC.exit ?_ | refine JC.skip ?_ | refine thenK.nn ?_ | refine thenK.x ?_ | refine blockK.nn ?_ | refine blockK.hit rfl ?_ | (refine JC.cond rfl (fun hc => ?_) (fun hc => ?_) <;> ((try simp only [decide_eq_true_eq, decide_eq_false_iff_not, beq_iff_eq, beq_eq_false_iff_ne, bne_iff_ne, bne_eq_false_iff_eq, Bool.not_eq_true', Bool.not_eq_false', Bool.not_eq_true, Bool.not_eq_false] at hc) <;> first | (first | (exact absurd rfl hc) | (exfalso; omega) | (exact absurd (hc.symm.trans (by assumption : _ = false)) (by decide)) | (exact absurd (hc.symm.trans (by assumption : _ = true)) (by decide))) | skip)) | refine loopK.x ?_)
        | (fail)
        | fail
      all_goals first | (exfalso; omega) | skip
      rw [← hsn] at o2 ⊢
      refine loopK.nn (m - 1) (by omega) (by repeat (first | refine Ag.upd rfl ?_ | exact Ag.hv | refine Ag.hv2 (fun i hi => by simp at hi ⊢; omega) ?_)) ⟨i + 1, a2, c2, h2, ?_, rfl, by omega, o2, rfl⟩
      show Value.int .i64 _ = _; congr 1
  obtain rfl : i = l.length := by omega
  rw [List.take_length] at oR ⊢
  have hcR := own_le oR
  obtain ⟨R, hR2⟩ : ∃ R, wo l v = R := ⟨_, rfl⟩
  rw [hR2] at oR hcR hp hwl ⊢
  have hsT := slT_take oR.sl p
  have hsD := slT_drop oR.sl p cR hcR
  have htl : (R.take p).length = p := by rw [List.length_take]; omega
  have hdl : (R.drop p).length = R.length - p := List.length_drop
  have hl4 : (R.take p ++ [v]).length = p + 1 := by simp [htl]
  have hin : (R.take p ++ [v]) ++ R.drop p = insAt R p v := by unfold insAt; simp
  repeat' first
    | (refine J.isJ ?_; first | (first | (refine J.o 13 ?_; first | refine J.slF (m := p) hΓ ?_ | refine J.slG p 1 hΓ ?_) | (refine J.o 9 ?_; first | (refine J.nilF ?_; refine J.apA (enc := encI) (ts := []) hΓ (OwT.nil (fun _ => rfl)) (us := R.take p) hsT RdH.hd.tl (fun a3 c3 h3 o3 => ?_); rw [List.nil_append] at o3; rw [List.nil_append]) | refine J.apA hΓ o4 (us := R.drop p) hsD RdH.hd.tl (fun a5 c5 h5 o5 => ?_) | refine J.ap1 (enc := encI) [v] hΓ (fun a4 c4 h4 o4 => ?_) (ho := o3))) | (first | (refine J.o 0 ?_; refine J.ev' hΓ ?_) | refine J.nil ?_ | (refine J.o 4 ?_; first | refine J.lT default hΓ ?_) | (refine J.o 3 ?_; first | refine J.iJ hΓ ?_ | refine J.ev' hΓ ?_) | (refine J.o 1 ?_; first | refine J.ad ?_) | (refine J.o 9 ?_; refine J.bl hΓ (fun _ => ?_)) | (refine J.o 10 ?_; refine J.ev' hΓ ?_) | (refine J.o 11 ?_; refine J.ev' hΓ ?_)))
    | (first | refine JC.seq ?_ | refine JC.region ?_ | refine JC.block ?_ | refine JC.ret ?_ | refine JC.exit ?_ | refine JC.skip ?_ | refine thenK.nn ?_ | refine thenK.x ?_ | refine blockK.nn ?_ | refine blockK.hit rfl ?_ | (refine JC.cond rfl (fun hc => ?_) (fun hc => ?_) <;> ((try simp only [decide_eq_true_eq, decide_eq_false_iff_not, beq_iff_eq, beq_eq_false_iff_ne, bne_iff_ne, bne_eq_false_iff_eq, Bool.not_eq_true', Bool.not_eq_false', Bool.not_eq_true, Bool.not_eq_false] at hc) <;> first | (first | (exact absurd rfl hc) | (exfalso; omega) | (exact absurd (hc.symm.trans (by assumption : _ = false)) (by decide)) | (exact absurd (hc.symm.trans (by assumption : _ = true)) (by decide))) | skip)) | refine loopK.x ?_)
    | (fail)
    | fail
  all_goals first | (exfalso; omega) | skip
  rw [hin] at o5 ⊢
  exact ret1f rfl rfl rfl (fun w1 hw => Gives.of (H.sel (l := [_, _]) (M := []) hw [0]) ⟨a5, c5, rfl, o5⟩)
end Go.Proofs.YtbhgahjeocnfcaaGreat
namespace Go.Proofs.YtbhgahjeocnfcaaGreat
open Go Go.Cx Go.RowKit
set_option linter.unusedVariables false
set_option linter.unusedSimpArgs false
set_option maxHeartbeats 4000000
attribute [local irreducible] J JC thenK blockK loopK roundK drawK retK QW Qt pel List.set Calls
open Go.Maps Go.Lib
set_option maxRecDepth 8000
attribute [local irreducible] JE Br eK0 eK3 brK pc
theorem eSifted31 : Entr Tryz.prog 12 := Entr.of Tryz.func12 rfl rfl
def PickI (W : Int → Nat) (P : List Int) (N x v : Nat) : Prop := (v = 0 ∧ ∀ y : Nat, x < y → y ≤ N → (y : Int) ∈ P) ∨ (x < v ∧ v ≤ N ∧ (v : Int) ∉ P ∧ ∀ y : Nat, x < y → y ≤ N → (y : Int) ∉ P → y = v ∨ cmS W v y < 0)
theorem PickI.skip {W : Int → Nat} {P : List Int} {N x v : Nat} (h : PickI W P N (x + 1) v) (hx : ((x + 1 : Nat) : Int) ∈ P) : PickI W P N x v := by
  rcases h with ⟨h1, h2⟩ | ⟨h1, h2, h3, h4⟩
  · refine .inl ⟨h1, fun y g1 g2 => ?_⟩
    by_cases e : y = x + 1
    · rw [e]; exact hx
    · exact h2 y (by omega) g2
  · refine .inr ⟨by omega, h2, h3, fun y g1 g2 g3 => ?_⟩
    by_cases e : y = x + 1
    · rw [e] at g3; exact absurd hx g3
    · exact h4 y (by omega) g2 g3
theorem PickI.keep {W : Int → Nat} {P : List Int} {N x v : Nat} (h : PickI W P N (x + 1) v) (hv : v ≠ 0) (hw : W ((x + 1 : Nat) : Int) < W (v : Int)) : PickI W P N x v := by
  rcases h with ⟨h1, h2⟩ | ⟨h1, h2, h3, h4⟩
  · exact absurd h1 hv
  · refine .inr ⟨by omega, h2, h3, fun y g1 g2 g3 => ?_⟩
    by_cases e : y = x + 1
    · right
      rw [e]
      unfold cmS
      rw [if_pos (by omega)]
      omega
    · exact h4 y (by omega) g2 g3
theorem PickI.take {W : Int → Nat} {P : List Int} {N x v : Nat} (h : PickI W P N (x + 1) v) (hx : ((x + 1 : Nat) : Int) ∉ P) (hxN : x + 1 ≤ N) (hw : v = 0 ∨ W (v : Int) ≤ W ((x + 1 : Nat) : Int)) : PickI W P N x (x + 1) := by
  refine .inr ⟨by omega, hxN, hx, fun y g1 g2 g3 => ?_⟩
  by_cases e : y = x + 1
  · exact .inl e
  · right
    rcases h with ⟨h1, h2⟩ | ⟨h1, h2, h3, h4⟩
    · exact absurd (h2 y (by omega) g2) g3
    · have hv0 : v ≠ 0 := by omega
      have hw' := hw.resolve_left hv0
      have hc : cmS W ((x + 1 : Nat) : Int) (v : Int) < 0 := by
        unfold cmS
        split <;> omega
      rcases h4 y (by omega) g2 g3 with g | g
      · rw [g]; exact hc
      · unfold cmS at hc g ⊢
        split at hc <;> split at g <;> split <;> omega
structure PkI (W : Int → Nat) (N : Nat) (P : List Int) : Prop where
  nd : P.Nodup
  rg : ∀ v ∈ P, 1 ≤ v ∧ v ≤ (N : Int)
  so : P.Pairwise fun x y => cmS W x y < 0
  ou : ∀ p ∈ P, ∀ y : Nat, 1 ≤ y → y ≤ N → (y : Int) ∉ P → cmS W p y < 0
theorem ints_nod : ∀ n, (ints n).Nodup
  | 0 => List.nodup_nil
  | n + 1 => by
    rw [ints_succ, List.nodup_append]
    exact ⟨ints_nod n, by simp, fun a ha b hb e => by
      rw [List.mem_singleton] at hb
      have := (ints_mem n a).1 ha
      omega⟩
theorem PkI.lt {W : Int → Nat} {N : Nat} {P : List Int} (h : PkI W N P) (hl : P.length < N) : ∃ y : Nat, 1 ≤ y ∧ y ≤ N ∧ (y : Int) ∉ P := by
  refine Classical.byContradiction fun hn => ?_
  have := nodup_sub (ints N) P (ints_nod N) fun x hx => by
    have hx := (ints_mem _ _).1 hx
    refine Classical.byContradiction fun g => hn ⟨x.toNat, by omega, by omega, ?_⟩
    rw [show ((x.toNat : Nat) : Int) = x by omega]
    exact g
  rw [ints_len] at this
  omega
theorem PkI.snoc {W : Int → Nat} {N : Nat} {P : List Int} (h : PkI W N P) (hl : P.length < N) {v : Nat} (hv : PickI W P N 0 v) : 1 ≤ v ∧ v ≤ N ∧ (v : Int) ∉ P ∧ PkI W N (P ++ [(v : Int)]) := by
  rcases hv with ⟨h1, h2⟩ | ⟨h1, h2, h3, h4⟩
  · obtain ⟨y, g1, g2, g3⟩ := h.lt hl
    exact absurd (h2 y (by omega) g2) g3
  · refine ⟨by omega, h2, h3, ?_, ?_, ?_, ?_⟩
    · rw [List.nodup_append]
      exact ⟨h.nd, by simp, fun a ha b hb e => h3 (by rw [List.mem_singleton] at hb; rw [← hb, ← e]; exact ha)⟩
    · intro u hu
      rcases List.mem_append.1 hu with g | g
      · exact h.rg u g
      · rw [List.mem_singleton.1 g]; omega
    · rw [List.pairwise_append]
      refine ⟨h.so, by simp, fun a ha b hb => ?_⟩
      rw [List.mem_singleton.1 hb]
      exact h.ou a ha v (by omega) h2 h3
    · intro p hp y g1 g2 g3
      have g4 : (y : Int) ∉ P := fun g => g3 (List.mem_append_left _ g)
      rcases List.mem_append.1 hp with g | g
      · exact h.ou p g y g1 g2 g4
      · rw [List.mem_singleton.1 g]
        refine (h4 y (by omega) g2 g4).resolve_left fun e => g3 ?_
        rw [e]
        exact List.mem_append_right _ (List.mem_singleton_self _)
theorem PkI.full {W : Int → Nat} {N : Nat} {P : List Int} (h : PkI W N P) (hl : P.length = N) : P.Perm (ints N) := by
  refine (List.perm_ext_iff_of_nodup h.nd (ints_nod N)).2 fun u => ⟨fun hu => (ints_mem _ _).2 (h.rg u hu), fun hu => ?_⟩
  refine Classical.byContradiction fun hn => ?_
  have := nodup_sub (u :: P) (ints N) (List.nodup_cons.2 ⟨hn, h.nd⟩) fun x hx => by
    rcases List.mem_cons.1 hx with rfl | hx
    · exact hu
    · exact (ints_mem _ _).2 (h.rg x hx)
  rw [ints_len, List.length_cons] at this
  omega
set_option maxHeartbeats 16000000 in
theorem sifted31_any (N : Nat) (hN : N ≤ 8) (F : VF) (hF : DepN N F) (o : List Int) (hp : o.Perm (ints N)) (ho : okOrd o) (W : Int → Nat) (hW : ∀ u : Nat, 1 ≤ u → u ≤ N → cntT N o (nodesT N o F (o.length + 1)) (u : Int) = W (u : Int)) (hWb : ∀ u, W u ≤ 1000) (hnT : (nodesT N o F (o.length + 1)).length ≤ 100000) (q : List Int) (hq : q.Perm o) (hqs : SrtO (cmS W) q q.length) (ao : Option Addr) (co : Nat) (hO : Heap) (so : SlT encI 1 ao o hO) (aF : Option Addr) (cF : Nat) (hFn : Heap) (hsF : SlT encBo 1 aF (tabX N F) hFn) (w : World) (hw1 : Holds (hO ++ hFn) w) :
    Calls Tryz.prog 12 #[.agg ⟨[.int .i64 (N : Int), .slice aF (2 ^ N) cF]⟩, .slice ao o.length co] w (Gives (fun v g => ∃ a c, v = .slice a (sftO F q o).length c ∧ SlT encI 1 a (sftO F q o) (g ++ hO)) w) := by
  have q0 : ∀ L, RdH (hO ++ hFn) L hO := fun L => RdH.old fun _ hh => List.mem_append_left _ hh
  have qF : ∀ L, RdH (hO ++ hFn) L hFn := fun L => RdH.old fun _ hh => List.mem_append_right _ hh
  have hol : o.length = N := by rw [hp.length_eq, ints_len]
  have hle : ∀ v ∈ o, v ≤ N := fun v hv => ((ints_mem _ _).1 (hp.mem_iff.1 hv)).2
  refine calls_of_JC (R := (hO ++ hFn)) Tryz.func12 Tryz.ntmps12 rfl rfl (hw1) ?_
  repeat' first
    | (refine J.isJ ?_; first | (first | (refine J.o 6 ?_; refine J.bx (fun _ => ?_)) | (refine J.o 1 ?_; refine J.gadd (a := N) (b := 1) ?_ (hw := wI64 (by omega))) | (refine J.o 9 ?_; refine J.make (enc := encBo) (m := N + 1) false hΓ rfl rfl rfl rfl rfl rfl (fun _ => rfl) (by omega) (by omega) (fun bd hd0 od0 => ?_)) | (refine J.o 4 ?_; first | refine J.lR hΓ ?_ (hr := Rd.hd) | refine J.lR hΓ ?_ (hr := Rd.hd.tl)) | (refine J.fc 41 ?_; refine J.call1 eWeights31 rfl rfl (fun w hw => weights31_any N hN F o ho hle (by omega) hnT ao co hO so aF cF hFn hsF w (hw.rdH (RdH.old fun _ hh => hh))) ?_; rintro _ hWw ⟨aW, cW, wl, rfl, hwl, hwu, oW⟩)) | (first | (refine J.o 0 ?_; refine J.ev' hΓ ?_) | refine J.nil ?_ | refine J.kd ?_ | (refine J.o 4 ?_; first | refine J.lT default hΓ ?_ | refine J.lR hΓ ?_) | (refine J.o 3 ?_; first | refine J.iJ hΓ ?_ | refine J.ev' hΓ ?_) | (refine J.o 1 ?_; first | refine J.ad ?_) | (refine J.o 5 ?_; first | refine J.tT1 _ default hΓ (fun _ _ => ?_)) | (refine J.o 6 ?_; refine J.bx (fun _ => ?_)) | (refine J.o 10 ?_; refine J.ev' hΓ ?_) | (refine J.o 11 ?_; refine J.ev' hΓ ?_)) | ((fail_if_success refine J.wt ?_); refine J.gc rfl rfl (fun hc => ?_) (fun hc => ?_) <;> ((try simp only [decide_eq_true_eq, decide_eq_false_iff_not, beq_iff_eq, beq_eq_false_iff_ne, bne_iff_ne, bne_eq_false_iff_eq, Bool.not_eq_true', Bool.not_eq_false', Bool.not_eq_true, Bool.not_eq_false] at hc) <;> first | (first | (exact absurd rfl hc) | (exfalso; omega) | (exact absurd (hc.symm.trans (by assumption : _ = false)) (by decide)) | (exact absurd (hc.symm.trans (by assumption : _ = true)) (by decide))) | skip)))
    | (first | refine JC.seq ?_ | refine JC.region ?_ | refine JC.block ?_ | refine JC.ret ?_ | refine JC.exit ?_ | refine JC.skip ?_ | refine thenK.nn ?_ | refine thenK.x ?_ | refine blockK.nn ?_ | refine blockK.hit rfl ?_ | refine JC.condT rfl ?_ | refine JC.condF rfl ?_ | (refine JC.cond rfl (fun hc => ?_) (fun hc => ?_) <;> ((try simp only [decide_eq_true_eq, decide_eq_false_iff_not, beq_iff_eq, beq_eq_false_iff_ne, bne_iff_ne, bne_eq_false_iff_eq, Bool.not_eq_true', Bool.not_eq_false', Bool.not_eq_true, Bool.not_eq_false] at hc) <;> first | (first | (exact absurd rfl hc) | (exfalso; omega) | (exact absurd (hc.symm.trans (by assumption : _ = false)) (by decide)) | (exact absurd (hc.symm.trans (by assumption : _ = true)) (by decide))) | skip)) | refine drawK.nn ?_ | refine loopK.x ?_)
    | (fail)
    | fail
  all_goals first | (exfalso; omega) | skip
  have hwv : ∀ u : Nat, 1 ≤ u → u ≤ N → wl.getD u default = (W (u : Int) : Nat) := fun u h1 h2 => by rw [hwu u h1 h2, hW u h1 h2]
  refine JC.nilF ?_
  refine JC.loopG (fun i => i == 6 || (Nat.ble 8 i && Nat.ble i 13) || Nat.ble 22 i) (fun m g L' => ∃ (i : Nat) (P now : List Int) (aN : Option Addr) (cN : Nat) (hN : Heap) (d : List Bool) (hD : Heap), g 8 = .int .i64 (i : Int) ∧ i + m = N ∧ P.length = i ∧ PkI W N P ∧ now = sftO F P o ∧ g 6 = .slice aN now.length cN ∧ SlT encI 1 aN now (hN ++ hO) ∧ d.length = N + 1 ∧ (∀ u : Nat, 1 ≤ u → u ≤ N → d.getD u default = decide ((u : Int) ∈ P)) ∧ OwT encBo 1 4 (some ⟨bd, 0, none⟩) (N + 1) d hD ∧ L' = hN :: hD :: hWw :: [_]) N ⟨0, [], o, ao, co, [], _, _, rfl, by omega, rfl, ⟨List.nodup_nil, fun _ h => (by cases h), List.Pairwise.nil, fun _ h => (by cases h)⟩, rfl, rfl, so, by simp, fun u h1 h2 => ?_, od0, rfl⟩ ?_
  · rw [List.getD_eq_getElem?_getD, List.getElem?_replicate, if_pos (by omega)]
    simp
  clear od0 hd0
  rename_i b2
  rintro m g _ ⟨i, P, now, aN, cN, hN1, d, hD, e8, him, hPl, pk, hnow, e6, sN, hdl, hdu, oD, rfl⟩
  refine JC.pin 8 e8 (JC.pin 6 e6 ?_)
  clear e8 e6
  have hpn : now.Perm o := hnow ▸ sftO_perm F P o (fun v hv => hp.mem_iff.2 ((ints_mem _ _).2 (pk.rg v hv))) ho.2
  have hnl := hpn.length_eq
  have hon : okOrd now := ho.perm hpn
  rcases Nat.lt_or_ge i N with hi | hi
  case inr =>
    obtain rfl : i = N := by omega
    have hPq : q = P := queue_uniq (hq.trans (hp.trans (pk.full hPl).symm)) hqs pk.so
    repeat' first
      | (refine J.isJ ?_; first | (fail) | (first | (refine J.o 0 ?_; refine J.ev' hΓ ?_) | refine J.nil ?_ | refine J.kd ?_ | (refine J.o 4 ?_; first | refine J.lT default hΓ ?_ | refine J.lR hΓ ?_) | (refine J.o 3 ?_; first | refine J.iJ hΓ ?_ | refine J.ev' hΓ ?_) | (refine J.o 1 ?_; first | refine J.ad ?_) | (refine J.o 5 ?_; first | refine J.tT1 _ default hΓ (fun _ _ => ?_)) | (refine J.o 6 ?_; refine J.bx (fun _ => ?_)) | (refine J.o 10 ?_; refine J.ev' hΓ ?_) | (refine J.o 11 ?_; refine J.ev' hΓ ?_)) | ((fail_if_success refine J.wt ?_); refine J.gc rfl rfl (fun hc => ?_) (fun hc => ?_) <;> ((try simp only [decide_eq_true_eq, decide_eq_false_iff_not, beq_iff_eq, beq_eq_false_iff_ne, bne_iff_ne, bne_eq_false_iff_eq, Bool.not_eq_true', Bool.not_eq_false', Bool.not_eq_true, Bool.not_eq_false] at hc) <;> first | (first | (exact absurd rfl hc) | (exfalso; omega) | (exact absurd (hc.symm.trans (by assumption : _ = false)) (by decide)) | (exact absurd (hc.symm.trans (by assumption : _ = true)) (by decide))) | skip)))
      | (first | refine JC.seq ?_ | refine JC.region ?_ | refine JC.block ?_ | refine JC.ret ?_ | refine JC.exit ?_ | refine JC.skip ?_ | refine thenK.nn ?_ | refine thenK.x ?_ | refine blockK.nn ?_ | refine blockK.hit rfl ?_ | refine JC.condT rfl ?_ | refine JC.condF rfl ?_ | (refine JC.cond rfl (fun hc => ?_) (fun hc => ?_) <;> ((try simp only [decide_eq_true_eq, decide_eq_false_iff_not, beq_iff_eq, beq_eq_false_iff_ne, bne_iff_ne, bne_eq_false_iff_eq, Bool.not_eq_true', Bool.not_eq_false', Bool.not_eq_true, Bool.not_eq_false] at hc) <;> first | (first | (exact absurd rfl hc) | (exfalso; omega) | (exact absurd (hc.symm.trans (by assumption : _ = false)) (by decide)) | (exact absurd (hc.symm.trans (by assumption : _ = true)) (by decide))) | skip)) | refine drawK.nn ?_ | refine loopK.x ?_)
      | (fail)
      | fail
    all_goals first | (exfalso; omega) | skip
    exact ret1f rfl rfl rfl (fun w1 hw => Gives.of (H.sel (l := [_, _, _, _]) (M := []) hw [0]) ⟨aN, cN, by rw [hPq, ← hnow], by rw [hPq, ← hnow]; exact sN⟩)
  repeat' first
    | (refine J.isJ ?_; first | ((refine J.o 4 ?_; refine J.lR hΓ ?_ (hr := Rd.hd.tl.tl.tl))) | (first | (refine J.o 0 ?_; refine J.ev' hΓ ?_) | refine J.nil ?_ | refine J.kd ?_ | (refine J.o 4 ?_; first | refine J.lT default hΓ ?_ | refine J.lR hΓ ?_) | (refine J.o 3 ?_; first | refine J.iJ hΓ ?_ | refine J.ev' hΓ ?_) | (refine J.o 1 ?_; first | refine J.ad ?_) | (refine J.o 5 ?_; first | refine J.tT1 _ default hΓ (fun _ _ => ?_)) | (refine J.o 6 ?_; refine J.bx (fun _ => ?_)) | (refine J.o 10 ?_; refine J.ev' hΓ ?_) | (refine J.o 11 ?_; refine J.ev' hΓ ?_)) | ((fail_if_success refine J.wt ?_); refine J.gc rfl rfl (fun hc => ?_) (fun hc => ?_) <;> ((try simp only [decide_eq_true_eq, decide_eq_false_iff_not, beq_iff_eq, beq_eq_false_iff_ne, bne_iff_ne, bne_eq_false_iff_eq, Bool.not_eq_true', Bool.not_eq_false', Bool.not_eq_true, Bool.not_eq_false] at hc) <;> first | (first | (exact absurd rfl hc) | (exfalso; omega) | (exact absurd (hc.symm.trans (by assumption : _ = false)) (by decide)) | (exact absurd (hc.symm.trans (by assumption : _ = true)) (by decide))) | skip)))
    | (first | refine JC.seq ?_ | refine JC.region ?_ | refine JC.block ?_ | refine JC.ret ?_ | refine JC.exit ?_ | refine JC.skip ?_ | refine thenK.nn ?_ | refine thenK.x ?_ | refine blockK.nn ?_ | refine blockK.hit rfl ?_ | refine JC.condT rfl ?_ | refine JC.condF rfl ?_ | (refine JC.cond rfl (fun hc => ?_) (fun hc => ?_) <;> ((try simp only [decide_eq_true_eq, decide_eq_false_iff_not, beq_iff_eq, beq_eq_false_iff_ne, bne_iff_ne, bne_eq_false_iff_eq, Bool.not_eq_true', Bool.not_eq_false', Bool.not_eq_true, Bool.not_eq_false] at hc) <;> first | (first | (exact absurd rfl hc) | (exfalso; omega) | (exact absurd (hc.symm.trans (by assumption : _ = false)) (by decide)) | (exact absurd (hc.symm.trans (by assumption : _ = true)) (by decide))) | skip)) | refine drawK.nn ?_ | refine loopK.x ?_)
    | (fail)
    | fail
  all_goals first | (exfalso; omega) | skip
  refine JC.loop (fun i => i == 9 || i == 10 || (Nat.ble 30 i && Nat.ble i 54)) (fun m g L' => ∃ (x v : Nat), g 10 = .int .i64 (x : Int) ∧ g 9 = .int .i64 (v : Int) ∧ x = m ∧ x ≤ N ∧ PickI W P N x v ∧ L' = _) N ⟨N, 0, rfl, rfl, rfl, Nat.le_refl _, .inl ⟨rfl, fun y h1 h2 => by omega⟩, rfl⟩ ?_
  rintro m2 g2 _ ⟨x, v, e10, e9, rfl, hxN, hpk, rfl⟩
  refine JC.pin 10 e10 (JC.pin 9 e9 ?_)
  clear e10 e9
  rcases x with _ | x
  case succ =>
    have hwx : wl.getD (x + 1) default = (W ((x + 1 : Nat) : Int) : Nat) := hwv (x + 1) (by omega) hxN
    have hwvv : v ≠ 0 → wl.getD v default = (W (v : Int) : Nat) := fun h => hwv v (by omega) (by rcases hpk with ⟨h1, _⟩ | ⟨_, h2, _⟩ <;> omega)
    have hvN : v ≤ N := by rcases hpk with ⟨h1, _⟩ | ⟨_, h2, _⟩ <;> omega
    by_cases hx : ((x + 1 : Nat) : Int) ∈ P
    · have hdx : d.getD (x + 1) default = true := by rw [hdu (x + 1) (by omega) hxN]; exact decide_eq_true hx
      clear hwx hwvv
      have hwx : wl.getD (x + 1) default = (W ((x + 1 : Nat) : Int) : Nat) := hwv (x + 1) (by omega) hxN
      have hwvv := hwx
      repeat' first
        | (refine J.isJ ?_; first | (first | (refine J.o 3 ?_; first | refine J.iJ hΓ ?_ (hs := oD.sl) | refine J.iJ hΓ ?_ (hs := oW.sl)) | (refine J.o 4 ?_; first | (refine J.lT default hΓ ?_ (hs := oD.sl) (hr := RdH.hd.tl); rw [hdx]) | (refine J.lT default hΓ ?_ (hs := oW.sl) (hr := RdH.hd.tl.tl); first | rw [hwx] | rw [hwvv])) | (refine J.o 1 ?_; refine J.gsub (a := x + 1) (b := 1) ?_)) | (first | (refine J.o 0 ?_; refine J.ev' hΓ ?_) | refine J.nil ?_ | refine J.kd ?_ | (refine J.o 4 ?_; first | refine J.lT default hΓ ?_ | refine J.lR hΓ ?_) | (refine J.o 3 ?_; first | refine J.iJ hΓ ?_ | refine J.ev' hΓ ?_) | (refine J.o 1 ?_; first | refine J.ad ?_) | (refine J.o 5 ?_; first | refine J.tT1 _ default hΓ (fun _ _ => ?_)) | (refine J.o 6 ?_; refine J.bx (fun _ => ?_)) | (refine J.o 10 ?_; refine J.ev' hΓ ?_) | (refine J.o 11 ?_; refine J.ev' hΓ ?_)) | ((fail_if_success refine J.wt ?_); refine J.gc rfl rfl (fun hc => ?_) (fun hc => ?_) <;> ((try simp only [decide_eq_true_eq, decide_eq_false_iff_not, beq_iff_eq, beq_eq_false_iff_ne, bne_iff_ne, bne_eq_false_iff_eq, Bool.not_eq_true', Bool.not_eq_false', Bool.not_eq_true, Bool.not_eq_false] at hc) <;> first | (first | (exact absurd rfl hc) | (exfalso; omega) | (exact absurd (hc.symm.trans (by assumption : _ = false)) (by decide)) | (exact absurd (hc.symm.trans (by assumption : _ = true)) (by decide))) | skip)))
        | (first | refine JC.seq ?_ | refine JC.region ?_ | refine JC.block ?_ | refine JC.ret ?_ | refine JC.exit ?_ | refine JC.skip ?_ | refine thenK.nn ?_ | refine thenK.x ?_ | refine blockK.nn ?_ | refine blockK.hit rfl ?_ | refine JC.condT rfl ?_ | refine JC.condF rfl ?_ | (refine JC.cond rfl (fun hc => ?_) (fun hc => ?_) <;> ((try simp only [decide_eq_true_eq, decide_eq_false_iff_not, beq_iff_eq, beq_eq_false_iff_ne, bne_iff_ne, bne_eq_false_iff_eq, Bool.not_eq_true', Bool.not_eq_false', Bool.not_eq_true, Bool.not_eq_false] at hc) <;> first | (first | (exact absurd rfl hc) | (exfalso; omega) | (exact absurd (hc.symm.trans (by assumption : _ = false)) (by decide)) | (exact absurd (hc.symm.trans (by assumption : _ = true)) (by decide))) | skip)) | refine drawK.nn ?_ | refine loopK.x ?_)
        | ((refine JC.drawA [] (by decide +kernel) (by decide +kernel) ?_))
        | fail
      all_goals first | (exfalso; omega) | skip
      refine loopK.nn x (by omega) (by repeat (first | refine Ag.upd rfl ?_ | exact Ag.hv | refine Ag.hv2 (fun i hi => by simp at hi ⊢; omega) ?_)) ⟨x, v, ?_, rfl, rfl, by omega, hpk.skip hx, rfl⟩
      show Value.int .i64 _ = _; congr 1
    · have hdx : d.getD (x + 1) default = false := by rw [hdu (x + 1) (by omega) hxN]; exact decide_eq_false hx
      by_cases hv0 : v = 0
      · have ht := hpk.take hx hxN (.inl hv0)
        subst hv0
        clear hwvv
        have hwvv := hwx
        repeat' first
          | (refine J.isJ ?_; first | (first | (refine J.o 3 ?_; first | refine J.iJ hΓ ?_ (hs := oD.sl) | refine J.iJ hΓ ?_ (hs := oW.sl)) | (refine J.o 4 ?_; first | (refine J.lT default hΓ ?_ (hs := oD.sl) (hr := RdH.hd.tl); rw [hdx]) | (refine J.lT default hΓ ?_ (hs := oW.sl) (hr := RdH.hd.tl.tl); first | rw [hwx] | rw [hwvv])) | (refine J.o 1 ?_; refine J.gsub (a := x + 1) (b := 1) ?_)) | (first | (refine J.o 0 ?_; refine J.ev' hΓ ?_) | refine J.nil ?_ | refine J.kd ?_ | (refine J.o 4 ?_; first | refine J.lT default hΓ ?_ | refine J.lR hΓ ?_) | (refine J.o 3 ?_; first | refine J.iJ hΓ ?_ | refine J.ev' hΓ ?_) | (refine J.o 1 ?_; first | refine J.ad ?_) | (refine J.o 5 ?_; first | refine J.tT1 _ default hΓ (fun _ _ => ?_)) | (refine J.o 6 ?_; refine J.bx (fun _ => ?_)) | (refine J.o 10 ?_; refine J.ev' hΓ ?_) | (refine J.o 11 ?_; refine J.ev' hΓ ?_)) | ((fail_if_success refine J.wt ?_); refine J.gc rfl rfl (fun hc => ?_) (fun hc => ?_) <;> ((try simp only [decide_eq_true_eq, decide_eq_false_iff_not, beq_iff_eq, beq_eq_false_iff_ne, bne_iff_ne, bne_eq_false_iff_eq, Bool.not_eq_true', Bool.not_eq_false', Bool.not_eq_true, Bool.not_eq_false] at hc) <;> first | (first | (exact absurd rfl hc) | (exfalso; omega) | (exact absurd (hc.symm.trans (by assumption : _ = false)) (by decide)) | (exact absurd (hc.symm.trans (by assumption : _ = true)) (by decide))) | skip)))
          | (first | refine JC.seq ?_ | refine JC.region ?_ | refine JC.block ?_ | refine JC.ret ?_ | refine JC.exit ?_ | refine JC.skip ?_ | refine thenK.nn ?_ | refine thenK.x ?_ | refine blockK.nn ?_ | refine blockK.hit rfl ?_ | refine JC.condT rfl ?_ | refine JC.condF rfl ?_ | (refine JC.cond rfl (fun hc => ?_) (fun hc => ?_) <;> ((try simp only [decide_eq_true_eq, decide_eq_false_iff_not, beq_iff_eq, beq_eq_false_iff_ne, bne_iff_ne, bne_eq_false_iff_eq, Bool.not_eq_true', Bool.not_eq_false', Bool.not_eq_true, Bool.not_eq_false] at hc) <;> first | (first | (exact absurd rfl hc) | (exfalso; omega) | (exact absurd (hc.symm.trans (by assumption : _ = false)) (by decide)) | (exact absurd (hc.symm.trans (by assumption : _ = true)) (by decide))) | skip)) | refine drawK.nn ?_ | refine loopK.x ?_)
          | ((refine JC.drawA [] (by decide +kernel) (by decide +kernel) ?_))
          | fail
        all_goals first | (exfalso; omega) | skip
        refine loopK.nn x (by omega) (by repeat (first | refine Ag.upd rfl ?_ | exact Ag.hv | refine Ag.hv2 (fun i hi => by simp at hi ⊢; omega) ?_)) ⟨x, x + 1, ?_, rfl, rfl, by omega, ht, rfl⟩
        show Value.int .i64 _ = _; congr 1
      · have hwvv := hwvv hv0
        by_cases hw2 : W (v : Int) ≤ W ((x + 1 : Nat) : Int)
        · have ht := hpk.take hx hxN (.inr hw2)
          repeat' first
            | (refine J.isJ ?_; first | (first | (refine J.o 3 ?_; first | refine J.iJ hΓ ?_ (hs := oD.sl) | refine J.iJ hΓ ?_ (hs := oW.sl)) | (refine J.o 4 ?_; first | (refine J.lT default hΓ ?_ (hs := oD.sl) (hr := RdH.hd.tl); rw [hdx]) | (refine J.lT default hΓ ?_ (hs := oW.sl) (hr := RdH.hd.tl.tl); first | rw [hwx] | rw [hwvv])) | (refine J.o 1 ?_; refine J.gsub (a := x + 1) (b := 1) ?_)) | (first | (refine J.o 0 ?_; refine J.ev' hΓ ?_) | refine J.nil ?_ | refine J.kd ?_ | (refine J.o 4 ?_; first | refine J.lT default hΓ ?_ | refine J.lR hΓ ?_) | (refine J.o 3 ?_; first | refine J.iJ hΓ ?_ | refine J.ev' hΓ ?_) | (refine J.o 1 ?_; first | refine J.ad ?_) | (refine J.o 5 ?_; first | refine J.tT1 _ default hΓ (fun _ _ => ?_)) | (refine J.o 6 ?_; refine J.bx (fun _ => ?_)) | (refine J.o 10 ?_; refine J.ev' hΓ ?_) | (refine J.o 11 ?_; refine J.ev' hΓ ?_)) | ((fail_if_success refine J.wt ?_); refine J.gc rfl rfl (fun hc => ?_) (fun hc => ?_) <;> ((try simp only [decide_eq_true_eq, decide_eq_false_iff_not, beq_iff_eq, beq_eq_false_iff_ne, bne_iff_ne, bne_eq_false_iff_eq, Bool.not_eq_true', Bool.not_eq_false', Bool.not_eq_true, Bool.not_eq_false] at hc) <;> first | (first | (exact absurd rfl hc) | (exfalso; omega) | (exact absurd (hc.symm.trans (by assumption : _ = false)) (by decide)) | (exact absurd (hc.symm.trans (by assumption : _ = true)) (by decide))) | skip)))
            | (first | refine JC.seq ?_ | refine JC.region ?_ | refine JC.block ?_ | refine JC.ret ?_ | refine JC.exit ?_ | refine JC.skip ?_ | refine thenK.nn ?_ | refine thenK.x ?_ | refine blockK.nn ?_ | refine blockK.hit rfl ?_ | refine JC.condT rfl ?_ | refine JC.condF rfl ?_ | (refine JC.cond rfl (fun hc => ?_) (fun hc => ?_) <;> ((try simp only [decide_eq_true_eq, decide_eq_false_iff_not, beq_iff_eq, beq_eq_false_iff_ne, bne_iff_ne, bne_eq_false_iff_eq, Bool.not_eq_true', Bool.not_eq_false', Bool.not_eq_true, Bool.not_eq_false] at hc) <;> first | (first | (exact absurd rfl hc) | (exfalso; omega) | (exact absurd (hc.symm.trans (by assumption : _ = false)) (by decide)) | (exact absurd (hc.symm.trans (by assumption : _ = true)) (by decide))) | skip)) | refine drawK.nn ?_ | refine loopK.x ?_)
            | ((refine JC.drawA [] (by decide +kernel) (by decide +kernel) ?_))
            | fail
          all_goals first | (exfalso; omega) | skip
          refine loopK.nn x (by omega) (by repeat (first | refine Ag.upd rfl ?_ | exact Ag.hv | refine Ag.hv2 (fun i hi => by simp at hi ⊢; omega) ?_)) ⟨x, x + 1, ?_, rfl, rfl, by omega, ht, rfl⟩
          show Value.int .i64 _ = _; congr 1
        · have ht := hpk.keep hv0 (by omega)
          repeat' first
            | (refine J.isJ ?_; first | (first | (refine J.o 3 ?_; first | refine J.iJ hΓ ?_ (hs := oD.sl) | refine J.iJ hΓ ?_ (hs := oW.sl)) | (refine J.o 4 ?_; first | (refine J.lT default hΓ ?_ (hs := oD.sl) (hr := RdH.hd.tl); rw [hdx]) | (refine J.lT default hΓ ?_ (hs := oW.sl) (hr := RdH.hd.tl.tl); first | rw [hwx] | rw [hwvv])) | (refine J.o 1 ?_; refine J.gsub (a := x + 1) (b := 1) ?_)) | (first | (refine J.o 0 ?_; refine J.ev' hΓ ?_) | refine J.nil ?_ | refine J.kd ?_ | (refine J.o 4 ?_; first | refine J.lT default hΓ ?_ | refine J.lR hΓ ?_) | (refine J.o 3 ?_; first | refine J.iJ hΓ ?_ | refine J.ev' hΓ ?_) | (refine J.o 1 ?_; first | refine J.ad ?_) | (refine J.o 5 ?_; first | refine J.tT1 _ default hΓ (fun _ _ => ?_)) | (refine J.o 6 ?_; refine J.bx (fun _ => ?_)) | (refine J.o 10 ?_; refine J.ev' hΓ ?_) | (refine J.o 11 ?_; refine J.ev' hΓ ?_)) | ((fail_if_success refine J.wt ?_); refine J.gc rfl rfl (fun hc => ?_) (fun hc => ?_) <;> ((try simp only [decide_eq_true_eq, decide_eq_false_iff_not, beq_iff_eq, beq_eq_false_iff_ne, bne_iff_ne, bne_eq_false_iff_eq, Bool.not_eq_true', Bool.not_eq_false', Bool.not_eq_true, Bool.not_eq_false] at hc) <;> first | (first | (exact absurd rfl hc) | (exfalso; omega) | (exact absurd (hc.symm.trans (by assumption : _ = false)) (by decide)) | (exact absurd (hc.symm.trans (by assumption : _ = true)) (by decide))) | skip)))
            | (first | refine JC.seq ?_ | refine JC.region ?_ | refine JC.block ?_ | refine JC.ret ?_ | refine JC.exit ?_ | refine JC.skip ?_ | refine thenK.nn ?_ | refine thenK.x ?_ | refine blockK.nn ?_ | refine blockK.hit rfl ?_ | refine JC.condT rfl ?_ | refine JC.condF rfl ?_ | (refine JC.cond rfl (fun hc => ?_) (fun hc => ?_) <;> ((try simp only [decide_eq_true_eq, decide_eq_false_iff_not, beq_iff_eq, beq_eq_false_iff_ne, bne_iff_ne, bne_eq_false_iff_eq, Bool.not_eq_true', Bool.not_eq_false', Bool.not_eq_true, Bool.not_eq_false] at hc) <;> first | (first | (exact absurd rfl hc) | (exfalso; omega) | (exact absurd (hc.symm.trans (by assumption : _ = false)) (by decide)) | (exact absurd (hc.symm.trans (by assumption : _ = true)) (by decide))) | skip)) | refine drawK.nn ?_ | refine loopK.x ?_)
            | ((refine JC.drawA [] (by decide +kernel) (by decide +kernel) ?_))
            | fail
          all_goals first | (exfalso; omega) | skip
          refine loopK.nn x (by omega) (by repeat (first | refine Ag.upd rfl ?_ | exact Ag.hv | refine Ag.hv2 (fun i hi => by simp at hi ⊢; omega) ?_)) ⟨x, v, ?_, rfl, rfl, by omega, ht, rfl⟩
          show Value.int .i64 _ = _; congr 1
  obtain ⟨hv1, hvN, hvP, pk2⟩ := pk.snoc (by omega) hpk
  have hvn : (v : Int) ∈ now := hpn.mem_iff.2 (hp.mem_iff.2 ((ints_mem _ _).2 ⟨by omega, by omega⟩))
  have hwo := wo_len hvn hon.2
  have hNl : now.length = N := by omega
  have cM := fun p (hpp : p ≤ (wo now (v : Int)).length) w hw => moved31_any now (v : Int) p hpp (by omega) aN cN (hN1 ++ hO) sN w hw
  have cM0 := cM 0 (by omega)
  have hpi := fun p => ins_perm hvn hon.2 p
  have hoi := fun p => hon.perm (hpi p)
  have hbp := fun p => bestO_perm hvn hon.2 (fun l => szF l F) p
  repeat' first
    | (refine J.isJ ?_; first | (first | (refine J.o 3 ?_; refine J.iJ hΓ ?_ (hs := oD.sl)) | (refine J.o 5 ?_; refine J.tT1 (enc := encBo) true default hΓ (fun h5 o5 => ?_) (ho := oD)) | (refine J.fc 42 ?_; refine J.call1 eMoved31 rfl rfl (fun w hw => cM0 w ((hw.rdH RdH.hd).append (hw.rdH (q0 _)))) ?_; rintro _ hB ⟨aB, cB, rfl, oB⟩)) | (first | (refine J.o 0 ?_; refine J.ev' hΓ ?_) | refine J.nil ?_ | refine J.kd ?_ | (refine J.o 4 ?_; first | refine J.lT default hΓ ?_ | refine J.lR hΓ ?_) | (refine J.o 3 ?_; first | refine J.iJ hΓ ?_ | refine J.ev' hΓ ?_) | (refine J.o 1 ?_; first | refine J.ad ?_) | (refine J.o 5 ?_; first | refine J.tT1 _ default hΓ (fun _ _ => ?_)) | (refine J.o 6 ?_; refine J.bx (fun _ => ?_)) | (refine J.o 10 ?_; refine J.ev' hΓ ?_) | (refine J.o 11 ?_; refine J.ev' hΓ ?_)) | ((fail_if_success refine J.wt ?_); refine J.gc rfl rfl (fun hc => ?_) (fun hc => ?_) <;> ((try simp only [decide_eq_true_eq, decide_eq_false_iff_not, beq_iff_eq, beq_eq_false_iff_ne, bne_iff_ne, bne_eq_false_iff_eq, Bool.not_eq_true', Bool.not_eq_false', Bool.not_eq_true, Bool.not_eq_false] at hc) <;> first | (first | (exact absurd rfl hc) | (exfalso; omega) | (exact absurd (hc.symm.trans (by assumption : _ = false)) (by decide)) | (exact absurd (hc.symm.trans (by assumption : _ = true)) (by decide))) | skip)))
    | (first | refine JC.seq ?_ | refine JC.region ?_ | refine JC.block ?_ | refine JC.ret ?_ | refine JC.exit ?_ | refine JC.skip ?_ | refine thenK.nn ?_ | refine thenK.x ?_ | refine blockK.nn ?_ | refine blockK.hit rfl ?_ | refine JC.condT rfl ?_ | refine JC.condF rfl ?_ | (refine JC.cond rfl (fun hc => ?_) (fun hc => ?_) <;> ((try simp only [decide_eq_true_eq, decide_eq_false_iff_not, beq_iff_eq, beq_eq_false_iff_ne, bne_iff_ne, bne_eq_false_iff_eq, Bool.not_eq_true', Bool.not_eq_false', Bool.not_eq_true, Bool.not_eq_false] at hc) <;> first | (first | (exact absurd rfl hc) | (exfalso; omega) | (exact absurd (hc.symm.trans (by assumption : _ = false)) (by decide)) | (exact absurd (hc.symm.trans (by assumption : _ = true)) (by decide))) | skip)) | refine drawK.nn ?_ | refine loopK.x ?_)
    | (fail)
    | fail
  all_goals first | (exfalso; omega) | skip
  refine JC.loopG (fun i => i == 11 || i == 12 || i == 13 || (Nat.ble 61 i && Nat.ble i 78)) (fun m g L' => ∃ (p : Nat) (aB : Option Addr) (cB : Nat) (hB : Heap), g 12 = .int .i64 ((p + 1 : Nat) : Int) ∧ g 11 = .slice aB (bestO (fun l => szF l F) (wo now (v : Int)) (v : Int) p).length cB ∧ p + 1 + m = N ∧ OwT encI 1 3 aB cB (bestO (fun l => szF l F) (wo now (v : Int)) (v : Int) p) hB ∧ L' = hB :: hN1 :: h5 :: hWw :: [_]) (N - 1) ⟨0, aB, cB, hB, rfl, rfl, by omega, oB, rfl⟩ ?_
  rintro m3 g3 _ ⟨p, aC, cC, hC, e12, e11, hpm, oC, rfl⟩
  refine JC.pin 12 e12 (JC.pin 11 e11 ?_)
  clear e12 e11
  have hbl := (hbp p).length_eq
  have hdu2 : ∀ u : Nat, 1 ≤ u → u ≤ N → (d.set v true).getD u default = decide ((u : Int) ∈ P ++ [(v : Int)]) := fun u h1 h2 => by
    rw [List.getD_eq_getElem?_getD, List.getElem?_set]
    by_cases e : v = u
    · subst e
      rw [if_pos rfl, if_pos (by omega)]
      symm
      simp
    · rw [if_neg e]
      have := hdu u h1 h2
      rw [List.getD_eq_getElem?_getD] at this
      rw [this, decide_eq_decide, List.mem_append, List.mem_singleton]
      constructor
      · exact .inl
      · rintro (g | g)
        · exact g
        · exact absurd (by omega) e
  rcases Nat.lt_or_ge (p + 1) N with hp1 | hp1
  case inr =>
    have hmv : bestO (fun l => szF l F) (wo now (v : Int)) (v : Int) p = sftO F (P ++ [(v : Int)]) o := by
      rw [sftO_snoc, ← hnow]
      unfold movO
      rw [show now.length - 1 = p by omega]
    rw [hmv] at oC ⊢
    repeat' first
      | (refine J.isJ ?_; first | (fail) | (first | (refine J.o 0 ?_; refine J.ev' hΓ ?_) | refine J.nil ?_ | refine J.kd ?_ | (refine J.o 4 ?_; first | refine J.lT default hΓ ?_ | refine J.lR hΓ ?_) | (refine J.o 3 ?_; first | refine J.iJ hΓ ?_ | refine J.ev' hΓ ?_) | (refine J.o 1 ?_; first | refine J.ad ?_) | (refine J.o 5 ?_; first | refine J.tT1 _ default hΓ (fun _ _ => ?_)) | (refine J.o 6 ?_; refine J.bx (fun _ => ?_)) | (refine J.o 10 ?_; refine J.ev' hΓ ?_) | (refine J.o 11 ?_; refine J.ev' hΓ ?_)) | ((fail_if_success refine J.wt ?_); refine J.gc rfl rfl (fun hc => ?_) (fun hc => ?_) <;> ((try simp only [decide_eq_true_eq, decide_eq_false_iff_not, beq_iff_eq, beq_eq_false_iff_ne, bne_iff_ne, bne_eq_false_iff_eq, Bool.not_eq_true', Bool.not_eq_false', Bool.not_eq_true, Bool.not_eq_false] at hc) <;> first | (first | (exact absurd rfl hc) | (exfalso; omega) | (exact absurd (hc.symm.trans (by assumption : _ = false)) (by decide)) | (exact absurd (hc.symm.trans (by assumption : _ = true)) (by decide))) | skip)))
      | (first | refine JC.seq ?_ | refine JC.region ?_ | refine JC.block ?_ | refine JC.ret ?_ | refine JC.exit ?_ | refine JC.skip ?_ | refine thenK.nn ?_ | refine thenK.x ?_ | refine blockK.nn ?_ | refine blockK.hit rfl ?_ | refine JC.condT rfl ?_ | refine JC.condF rfl ?_ | (refine JC.cond rfl (fun hc => ?_) (fun hc => ?_) <;> ((try simp only [decide_eq_true_eq, decide_eq_false_iff_not, beq_iff_eq, beq_eq_false_iff_ne, bne_iff_ne, bne_eq_false_iff_eq, Bool.not_eq_true', Bool.not_eq_false', Bool.not_eq_true, Bool.not_eq_false] at hc) <;> first | (first | (exact absurd rfl hc) | (exfalso; omega) | (exact absurd (hc.symm.trans (by assumption : _ = false)) (by decide)) | (exact absurd (hc.symm.trans (by assumption : _ = true)) (by decide))) | skip)) | refine drawK.nn ?_ | refine loopK.x ?_)
      | (fail)
      | fail
    all_goals first | (exfalso; omega) | skip
    refine loopK.nn (m - 1) (by omega) (by repeat (first | refine Ag.upd rfl ?_ | exact Ag.hv | refine Ag.hv2 (fun i hi => by simp at hi ⊢; omega) ?_)) ⟨_, ⟨i + 1, P ++ [(v : Int)], _, aC, cC, hC, d.set v true, h5, ?_, by omega, by rw [List.length_append, hPl]; rfl, pk2, rfl, rfl, oC.sl.sub fun x hx => List.mem_append_left _ hx, by rw [List.length_set]; exact hdl, hdu2, o5, rfl⟩, fun w hw => H.sel (l := [_, _, _, _, _]) (M := []) hw [0, 2, 3, 4]⟩
    show Value.int .i64 _ = _; congr 1
  have cMp := cM (p + 1) (by omega)
  have hil := (hpi (p + 1)).length_eq
  have hpo := fun {l : List Int} (h : l.Perm now) => h.trans (hpn.trans hp)
  have cS1 := fun aX cX hX (sX : SlT encI 1 aX (insAt (wo now (v : Int)) (p + 1) (v : Int)) hX) w hw => size31_any N hN F _ (hoi (p + 1)) (fun u hu => ((ints_mem _ _).1 ((hpo (hpi (p + 1))).mem_iff.1 hu)).2) (by omega) aX cX hX sX aF cF hFn hsF w hw
  have cS2 := fun w hw => size31_any N hN F _ (hon.perm (hbp p)) (fun u hu => ((ints_mem _ _).1 ((hpo (hbp p)).mem_iff.1 hu)).2) (by omega) aC cC hC oC.sl aF cF hFn hsF w hw
  have e1 := szF_nodes (by omega) hF (hpo (hpi (p + 1))) (hoi (p + 1))
  have e2 := szF_nodes (by omega) hF (hpo (hbp p)) (hon.perm (hbp p))
  rw [e1] at cS1
  rw [e2] at cS2
  repeat' first
    | (refine J.isJ ?_; first | (first | (refine J.o 4 ?_; first | refine J.lR hΓ ?_ (hr := Rd.hd.tl.tl.tl.tl.tl)) | (refine J.fc 42 ?_; refine J.call1 eMoved31 rfl rfl (fun w hw => cMp w ((hw.rdH RdH.hd.tl).append (hw.rdH (q0 _)))) ?_; rintro _ hX ⟨aX, cX, rfl, oX⟩) | (refine J.fc 40 ?_; first | refine J.call0 eSize31 rfl rfl (fun w hw => cS1 aX cX hX oX.sl w ((hw.rdH RdH.hd).append (hw.rdH (qF _)))) ?_ | refine J.call0 eSize31 rfl rfl (fun w hw => cS2 w ((hw.rdH RdH.hd.tl).append (hw.rdH (qF _)))) ?_)) | (first | (refine J.o 0 ?_; refine J.ev' hΓ ?_) | refine J.nil ?_ | refine J.kd ?_ | (refine J.o 4 ?_; first | refine J.lT default hΓ ?_ | refine J.lR hΓ ?_) | (refine J.o 3 ?_; first | refine J.iJ hΓ ?_ | refine J.ev' hΓ ?_) | (refine J.o 1 ?_; first | refine J.ad ?_) | (refine J.o 5 ?_; first | refine J.tT1 _ default hΓ (fun _ _ => ?_)) | (refine J.o 6 ?_; refine J.bx (fun _ => ?_)) | (refine J.o 10 ?_; refine J.ev' hΓ ?_) | (refine J.o 11 ?_; refine J.ev' hΓ ?_)) | ((fail_if_success refine J.wt ?_); refine J.gc rfl rfl (fun hc => ?_) (fun hc => ?_) <;> ((try simp only [decide_eq_true_eq, decide_eq_false_iff_not, beq_iff_eq, beq_eq_false_iff_ne, bne_iff_ne, bne_eq_false_iff_eq, Bool.not_eq_true', Bool.not_eq_false', Bool.not_eq_true, Bool.not_eq_false] at hc) <;> first | (first | (exact absurd rfl hc) | (exfalso; omega) | (exact absurd (hc.symm.trans (by assumption : _ = false)) (by decide)) | (exact absurd (hc.symm.trans (by assumption : _ = true)) (by decide))) | skip)))
    | (first | refine JC.seq ?_ | refine JC.region ?_ | refine JC.block ?_ | refine JC.ret ?_ | refine JC.exit ?_ | refine JC.skip ?_ | refine thenK.nn ?_ | refine thenK.x ?_ | refine blockK.nn ?_ | refine blockK.hit rfl ?_ | refine JC.condT rfl ?_ | refine JC.condF rfl ?_ | (refine JC.cond rfl (fun hc => ?_) (fun hc => ?_) <;> ((try simp only [decide_eq_true_eq, decide_eq_false_iff_not, beq_iff_eq, beq_eq_false_iff_ne, bne_iff_ne, bne_eq_false_iff_eq, Bool.not_eq_true', Bool.not_eq_false', Bool.not_eq_true, Bool.not_eq_false] at hc) <;> first | (first | (exact absurd rfl hc) | (exfalso; omega) | (exact absurd (hc.symm.trans (by assumption : _ = false)) (by decide)) | (exact absurd (hc.symm.trans (by assumption : _ = true)) (by decide))) | skip)) | refine drawK.nn ?_ | refine loopK.x ?_)
    | ((refine JC.drawA [] (by decide +kernel) (by decide +kernel) ?_))
    | fail
  all_goals first | (exfalso; omega) | skip
  · have hb : bestO (fun l => szF l F) (wo now (v : Int)) (v : Int) (p + 1) = insAt (wo now (v : Int)) (p + 1) (v : Int) := by unfold bestO; rw [if_pos (by omega)]
    refine loopK.nn (m3 - 1) (by omega) (by repeat (first | refine Ag.upd rfl ?_ | exact Ag.hv | refine Ag.hv2 (fun i hi => by simp at hi ⊢; omega) ?_)) ⟨_, ⟨p + 1, aX, cX, hX, ?_, by rw [hb]; rfl, by omega, by rw [hb]; exact oX, rfl⟩, fun w hw => H.sel (l := [_, _, _, _, _, _]) (M := []) hw [0, 2, 3, 4, 5]⟩
    show Value.int .i64 _ = _; congr 1
  · have hb : bestO (fun l => szF l F) (wo now (v : Int)) (v : Int) (p + 1) = bestO (fun l => szF l F) (wo now (v : Int)) (v : Int) p := by
      conv => lhs; unfold bestO
      rw [if_neg (by omega)]
    refine loopK.nn (m3 - 1) (by omega) (by repeat (first | refine Ag.upd rfl ?_ | exact Ag.hv | refine Ag.hv2 (fun i hi => by simp at hi ⊢; omega) ?_)) ⟨_, ⟨p + 1, aC, cC, hC, ?_, by rw [hb]; rfl, by omega, by rw [hb]; exact oC, rfl⟩, fun w hw => H.sel (l := [_, _, _, _, _, _]) (M := []) hw [1, 2, 3, 4, 5]⟩
    show Value.int .i64 _ = _; congr 1
end Go.Proofs.YtbhgahjeocnfcaaGreat
namespace Go.Proofs.YtbhgahjeocnfcaaGreat
open Go Go.Cx Go.RowKit
set_option linter.unusedVariables false
set_option linter.unusedSimpArgs false
set_option maxHeartbeats 4000000
attribute [local irreducible] J JC thenK blockK loopK roundK drawK retK QW Qt pel List.set Calls
open Go.Maps Go.Lib
set_option maxRecDepth 8000
attribute [local irreducible] JE Br eK0 eK3 brK pc
theorem eFunc31 : Entr Tryz.prog 9 := Entr.of Tryz.func9 rfl rfl
theorem eStands : Entr Tryz.prog 11 := Entr.of Tryz.func11 rfl rfl
theorem has0_le {x N : Nat} (hx : x < 2 ^ N) {u : Int} (h : hasB (x, 0) u = true) : u ≤ N := by
  have hr := hasB_rng h
  unfold hasB at h
  split at h
  · apply Classical.byContradiction
    intro hn
    have : x.testBit (u - 1).toNat = false := Nat.testBit_lt_two_pow (Nat.lt_of_lt_of_le hx (Nat.pow_le_pow_right (by decide) (by omega)))
    rw [show ((x, 0) : Nat × Nat).1 = x from rfl, this] at h
    cases h
  · split at h
    · rw [show ((x, 0) : Nat × Nat).2 = 0 from rfl, Nat.zero_testBit] at h; cases h
    · cases h
theorem func31_any (N : Nat) (hN : N ≤ 8) (aT : Option Addr) (cap : Nat) (vs : List HV) (hT : Heap) (ll : LLR aT vs hT) (hok : okTh N (vs.map (·.l))) (w : World) (hw1 : Holds hT w) :
    Calls Tryz.prog 9 #[.agg ⟨[.int .i64 (N : Int), .slice aT vs.length cap]⟩] w (Gives (fun v h => ∃ a c, v = .agg ⟨[.int .i64 (N : Int), .slice a (2 ^ N) c]⟩ ∧ SlT encBo 1 a (tabX N (thF (vs.map (·.l)))) h) w) := by
  have h2n := pow8 hN
  have q0 : ∀ L, RdH hT L hT := fun L => RdH.old fun _ hh => hh
  have hp2 : ((N : Int)).toNat = N := by omega
  refine calls_of_JC (R := hT) Tryz.func9 Tryz.ntmps9 rfl rfl (hw1) ?_
  refine JC.seq ?_
  refine JC.region ?_
  refine J.isJ ?_
  refine J.o 6 ?_
  refine J.bx (fun b1 => ?_)
  refine J.isJ ?_
  refine J.o 7 ?_
  refine J.al hΓ (fun b2 => ?_)
  repeat' first
    | (refine J.isJ ?_; first | (fail) | (first | (refine J.o 0 ?_; refine J.ev' hΓ ?_) | refine J.nil ?_ | (refine J.o 4 ?_; first | refine J.lR hΓ ?_) | (refine J.o 3 ?_; first | refine J.iJ hΓ ?_ | refine J.ev' hΓ ?_) | (refine J.o 1 ?_; first | refine J.ad ?_) | (refine J.o 5 ?_; first | refine J.t0 hΓ ?_ | refine J.t1 hΓ ?_ | refine J.t2 hΓ ?_ | refine J.tT _ default hΓ (fun _ _ => ?_)) | (refine J.o 6 ?_; refine J.bx (fun _ => ?_)) | (refine J.o 7 ?_; refine J.al hΓ (fun _ => ?_)) | (refine J.o 8 ?_; refine J.bd hΓ ?_) | (refine J.o 10 ?_; refine J.ev' hΓ ?_) | (refine J.o 11 ?_; refine J.ev' hΓ ?_)))
    | (first | refine JC.seq ?_ | refine JC.region ?_ | refine JC.block ?_ | refine JC.ret ?_ | refine JC.exit ?_ | refine JC.skip ?_ | refine thenK.nn ?_ | refine thenK.x ?_ | refine blockK.nn ?_ | refine blockK.hit rfl ?_ | (refine JC.cond rfl (fun hc => ?_) (fun hc => ?_) <;> ((try simp only [decide_eq_true_eq, decide_eq_false_iff_not, beq_iff_eq, beq_eq_false_iff_ne, bne_iff_ne, bne_eq_false_iff_eq, Bool.not_eq_true', Bool.not_eq_false', Bool.not_eq_true, Bool.not_eq_false] at hc) <;> first | (first | (exact absurd rfl hc) | (exfalso; omega) | (exact absurd (hc.symm.trans (by assumption : _ = false)) (by decide)) | (exact absurd (hc.symm.trans (by assumption : _ = true)) (by decide))) | skip)) | refine drawK.nn ?_ | refine loopK.x ?_)
    | (fail)
    | fail
  refine JC.mid (fun i => i == 3 || (Nat.ble 5 i && Nat.ble i 12)) (fun g L' => ∃ b3 bp hp0, g 3 = .pointer (some ⟨b3, 0, none⟩) ∧ OwT encBo 1 4 (some ⟨bp, 0, none⟩) (2 ^ N) (List.replicate (2 ^ N) false) hp0 ∧ L'.Perm ([(b3, .cells ⟨[.int .i64 (N : Int), .slice (some ⟨bp, 0, none⟩) (2 ^ N) (2 ^ N)]⟩ 36 (0, 0))] :: hp0 :: [(b2, .cells ⟨[.int .i64 0, .slice none 0 0]⟩ 36 (0, 0))] :: [(b1, .cells ⟨[.int .i64 (N : Int), .slice aT vs.length cap]⟩ 24 (0, 0))] :: [])) ?_ ?_
  ·
    refine JC.drawE ([(b2, .cells ⟨[.int .i64 0, .slice none 0 0]⟩ 36 (0, 0))] :: [(b1, .cells ⟨[.int .i64 (N : Int), .slice aT vs.length cap]⟩ 24 (0, 0))] :: []) [6, 8, 9] [6, 8, 9] [(0,0),(4,1),(0,2),(4,3),(0,4),(0,5)] 4 _ (by kernel_rfl) (by kernel_rfl) rfl ?_
    repeat' first
      | (refine J.isJ ?_; first | (first | (refine J.o 2 ?_; refine J.cv _ hΓ ?_) | (refine J.o 1 ?_; refine J.s2 ?_)) | (first | (refine J.o 0 ?_; refine J.ev' hΓ ?_) | refine J.nil ?_ | (refine J.o 4 ?_; first | refine J.lR hΓ ?_) | (refine J.o 3 ?_; first | refine J.iJ hΓ ?_ | refine J.ev' hΓ ?_) | (refine J.o 1 ?_; first | refine J.ad ?_) | (refine J.o 5 ?_; first | refine J.t0 hΓ ?_ | refine J.t1 hΓ ?_ | refine J.t2 hΓ ?_ | refine J.tT _ default hΓ (fun _ _ => ?_)) | (refine J.o 6 ?_; refine J.bx (fun _ => ?_)) | (refine J.o 7 ?_; refine J.al hΓ (fun _ => ?_)) | (refine J.o 8 ?_; refine J.bd hΓ ?_) | (refine J.o 10 ?_; refine J.ev' hΓ ?_) | (refine J.o 11 ?_; refine J.ev' hΓ ?_)))
      | (first | (refine JE.is ?_; first | refine JE.s0 ?_ | refine JE.s3 ?_ | refine JE.nil ?_ | refine JE.s4 rfl (fun w hw => hw.subl (by repeat (first | exact List.nil_sublist _ | exact List.Sublist.refl _ | refine List.Sublist.cons_cons _ ?_ | refine List.Sublist.cons _ ?_))) ?_) | refine eK0.nn ?_ | (refine eK3.is ?_; refine eK3.nn (fun w hw => hw.subl (by repeat (first | exact List.nil_sublist _ | exact List.Sublist.refl _ | refine List.Sublist.cons_cons _ ?_ | refine List.Sublist.cons _ ?_))) ?_) | refine brK.nn ?_)
      | (first | refine JC.seq ?_ | refine JC.region ?_ | refine JC.block ?_ | refine JC.ret ?_ | refine JC.exit ?_ | refine JC.skip ?_ | refine thenK.nn ?_ | refine thenK.x ?_ | refine blockK.nn ?_ | refine blockK.hit rfl ?_ | (refine JC.cond rfl (fun hc => ?_) (fun hc => ?_) <;> ((try simp only [decide_eq_true_eq, decide_eq_false_iff_not, beq_iff_eq, beq_eq_false_iff_ne, bne_iff_ne, bne_eq_false_iff_eq, Bool.not_eq_true', Bool.not_eq_false', Bool.not_eq_true, Bool.not_eq_false] at hc) <;> first | (first | (exact absurd rfl hc) | (exfalso; omega) | (exact absurd (hc.symm.trans (by assumption : _ = false)) (by decide)) | (exact absurd (hc.symm.trans (by assumption : _ = true)) (by decide))) | skip)) | refine drawK.nn ?_ | refine loopK.x ?_)
      | (fail)
      | fail
    refine Br.two (c1 := 1) (c2 := 1) (m1 := 0) (m2 := 0) 6 8 [(0,7),(3,8),(3,9)] [(3,6),(0,7),(3,9)] (by decide +kernel) rfl rfl (by decide +kernel) rfl (by decide +kernel) rfl ?_ ?_
    ·
      repeat' first
        | (refine J.isJ ?_; first | (first | (refine J.o 9 ?_; refine J.make (enc := encBo) (m := 2 ^ N) false hΓ rfl rfl rfl rfl rfl rfl (fun _ => rfl) (by omega) (by omega) (fun bp hp0 op0 => ?_)) | (refine J.o 7 ?_; refine J.al hΓ (fun b3 => ?_))) | (first | (refine J.o 0 ?_; refine J.ev' hΓ ?_) | refine J.nil ?_ | (refine J.o 4 ?_; first | refine J.lR hΓ ?_) | (refine J.o 3 ?_; first | refine J.iJ hΓ ?_ | refine J.ev' hΓ ?_) | (refine J.o 1 ?_; first | refine J.ad ?_) | (refine J.o 5 ?_; first | refine J.t0 hΓ ?_ | refine J.t1 hΓ ?_ | refine J.t2 hΓ ?_ | refine J.tT _ default hΓ (fun _ _ => ?_)) | (refine J.o 6 ?_; refine J.bx (fun _ => ?_)) | (refine J.o 7 ?_; refine J.al hΓ (fun _ => ?_)) | (refine J.o 8 ?_; refine J.bd hΓ ?_) | (refine J.o 10 ?_; refine J.ev' hΓ ?_) | (refine J.o 11 ?_; refine J.ev' hΓ ?_)))
        | (first | (refine JE.is ?_; first | refine JE.s0 ?_ | refine JE.s3 ?_ | refine JE.nil ?_ | refine JE.s4 rfl (fun w hw => hw.subl (by repeat (first | exact List.nil_sublist _ | exact List.Sublist.refl _ | refine List.Sublist.cons_cons _ ?_ | refine List.Sublist.cons _ ?_))) ?_) | refine eK0.nn ?_ | (refine eK3.is ?_; refine eK3.nn (fun w hw => hw.subl (by repeat (first | exact List.nil_sublist _ | exact List.Sublist.refl _ | refine List.Sublist.cons_cons _ ?_ | refine List.Sublist.cons _ ?_))) ?_) | refine brK.nn ?_)
        | (first | refine JC.seq ?_ | refine JC.region ?_ | refine JC.block ?_ | refine JC.ret ?_ | refine JC.exit ?_ | refine JC.skip ?_ | refine thenK.nn ?_ | refine thenK.x ?_ | refine blockK.nn ?_ | refine blockK.hit rfl ?_ | (refine JC.cond rfl (fun hc => ?_) (fun hc => ?_) <;> ((try simp only [decide_eq_true_eq, decide_eq_false_iff_not, beq_iff_eq, beq_eq_false_iff_ne, bne_iff_ne, bne_eq_false_iff_eq, Bool.not_eq_true', Bool.not_eq_false', Bool.not_eq_true, Bool.not_eq_false] at hc) <;> first | (first | (exact absurd rfl hc) | (exfalso; omega) | (exact absurd (hc.symm.trans (by assumption : _ = false)) (by decide)) | (exact absurd (hc.symm.trans (by assumption : _ = true)) (by decide))) | skip)) | refine drawK.nn ?_ | refine loopK.x ?_)
        | (fail)
        | fail
      refine Br.done (by kernel_rfl) ?_
      refine midK.nn (by repeat (first | refine Ag.upd rfl ?_ | exact Ag.rfl')) ⟨_, _, _, rfl, op0, ?_⟩
      first | exact .refl _ | exact br1 | exact br1.cons _ | exact br2 | exact br2.symm | exact br2.trans (br1.cons _)
    ·
      repeat' first
        | (refine J.isJ ?_; first | (first | (refine J.o 9 ?_; refine J.make (enc := encBo) (m := 2 ^ N) false hΓ rfl rfl rfl rfl rfl rfl (fun _ => rfl) (by omega) (by omega) (fun bp hp0 op0 => ?_)) | (refine J.o 7 ?_; refine J.al hΓ (fun b3 => ?_))) | (first | (refine J.o 0 ?_; refine J.ev' hΓ ?_) | refine J.nil ?_ | (refine J.o 4 ?_; first | refine J.lR hΓ ?_) | (refine J.o 3 ?_; first | refine J.iJ hΓ ?_ | refine J.ev' hΓ ?_) | (refine J.o 1 ?_; first | refine J.ad ?_) | (refine J.o 5 ?_; first | refine J.t0 hΓ ?_ | refine J.t1 hΓ ?_ | refine J.t2 hΓ ?_ | refine J.tT _ default hΓ (fun _ _ => ?_)) | (refine J.o 6 ?_; refine J.bx (fun _ => ?_)) | (refine J.o 7 ?_; refine J.al hΓ (fun _ => ?_)) | (refine J.o 8 ?_; refine J.bd hΓ ?_) | (refine J.o 10 ?_; refine J.ev' hΓ ?_) | (refine J.o 11 ?_; refine J.ev' hΓ ?_)))
        | (first | (refine JE.is ?_; first | refine JE.s0 ?_ | refine JE.s3 ?_ | refine JE.nil ?_ | refine JE.s4 rfl (fun w hw => hw.subl (by repeat (first | exact List.nil_sublist _ | exact List.Sublist.refl _ | refine List.Sublist.cons_cons _ ?_ | refine List.Sublist.cons _ ?_))) ?_) | refine eK0.nn ?_ | (refine eK3.is ?_; refine eK3.nn (fun w hw => hw.subl (by repeat (first | exact List.nil_sublist _ | exact List.Sublist.refl _ | refine List.Sublist.cons_cons _ ?_ | refine List.Sublist.cons _ ?_))) ?_) | refine brK.nn ?_)
        | (first | refine JC.seq ?_ | refine JC.region ?_ | refine JC.block ?_ | refine JC.ret ?_ | refine JC.exit ?_ | refine JC.skip ?_ | refine thenK.nn ?_ | refine thenK.x ?_ | refine blockK.nn ?_ | refine blockK.hit rfl ?_ | (refine JC.cond rfl (fun hc => ?_) (fun hc => ?_) <;> ((try simp only [decide_eq_true_eq, decide_eq_false_iff_not, beq_iff_eq, beq_eq_false_iff_ne, bne_iff_ne, bne_eq_false_iff_eq, Bool.not_eq_true', Bool.not_eq_false', Bool.not_eq_true, Bool.not_eq_false] at hc) <;> first | (first | (exact absurd rfl hc) | (exfalso; omega) | (exact absurd (hc.symm.trans (by assumption : _ = false)) (by decide)) | (exact absurd (hc.symm.trans (by assumption : _ = true)) (by decide))) | skip)) | refine drawK.nn ?_ | refine loopK.x ?_)
        | (fail)
        | fail
      refine Br.done (by kernel_rfl) ?_
      refine midK.nn (by repeat (first | refine Ag.upd rfl ?_ | exact Ag.rfl')) ⟨_, _, _, rfl, op0, ?_⟩
      first | exact .refl _ | exact br1 | exact br1.cons _ | exact br2 | exact br2.symm | exact br2.trans (br1.cons _)
  rintro g1 L' ⟨b3, bp, hp0, e3, op0, hpm⟩
  refine thenK.nn ?_
  refine JC.perm hpm ?_
  refine JC.pin 3 e3 ?_
  clear e3 hpm
  repeat' first
    | (refine J.isJ ?_; first | (fail) | (first | (refine J.o 0 ?_; refine J.ev' hΓ ?_) | refine J.nil ?_ | (refine J.o 4 ?_; first | refine J.lR hΓ ?_) | (refine J.o 3 ?_; first | refine J.iJ hΓ ?_ | refine J.ev' hΓ ?_) | (refine J.o 1 ?_; first | refine J.ad ?_) | (refine J.o 5 ?_; first | refine J.t0 hΓ ?_ | refine J.t1 hΓ ?_ | refine J.t2 hΓ ?_ | refine J.tT _ default hΓ (fun _ _ => ?_)) | (refine J.o 6 ?_; refine J.bx (fun _ => ?_)) | (refine J.o 7 ?_; refine J.al hΓ (fun _ => ?_)) | (refine J.o 8 ?_; refine J.bd hΓ ?_) | (refine J.o 10 ?_; refine J.ev' hΓ ?_) | (refine J.o 11 ?_; refine J.ev' hΓ ?_)))
    | (first | refine JC.seq ?_ | refine JC.region ?_ | refine JC.block ?_ | refine JC.ret ?_ | refine JC.exit ?_ | refine JC.skip ?_ | refine thenK.nn ?_ | refine thenK.x ?_ | refine blockK.nn ?_ | refine blockK.hit rfl ?_ | (refine JC.cond rfl (fun hc => ?_) (fun hc => ?_) <;> ((try simp only [decide_eq_true_eq, decide_eq_false_iff_not, beq_iff_eq, beq_eq_false_iff_ne, bne_iff_ne, bne_eq_false_iff_eq, Bool.not_eq_true', Bool.not_eq_false', Bool.not_eq_true, Bool.not_eq_false] at hc) <;> first | (first | (exact absurd rfl hc) | (exfalso; omega) | (exact absurd (hc.symm.trans (by assumption : _ = false)) (by decide)) | (exact absurd (hc.symm.trans (by assumption : _ = true)) (by decide))) | skip)) | refine drawK.nn ?_ | refine loopK.x ?_)
    | (fail)
    | fail
  all_goals first | (exfalso; omega) | skip
  refine JC.loop (fun i => i == 4 || Nat.ble 16 i) (fun m g L' => ∃ q h', g 16 = .int .i64 ((q : Nat) : Int) ∧ q + m = 2 ^ N ∧ OwT encBo 1 4 (some ⟨bp, 0, none⟩) (2 ^ N) (fillL (fun x => thF (vs.map (·.l)) (hasB (x, 0))) (2 ^ N) q) h' ∧ L' = [(b3, .cells ⟨[.int .i64 (N : Int), .slice (some ⟨bp, 0, none⟩) (2 ^ N) (2 ^ N)]⟩ 36 (0, 0))] :: h' :: [(b2, .cells ⟨[.int .i64 0, .slice none 0 0]⟩ 36 (0, 0))] :: [(b1, .cells ⟨[.int .i64 (N : Int), .slice aT vs.length cap]⟩ 24 (0, 0))] :: []) (2 ^ N) ⟨0, _, rfl, by omega, by rw [fill_0]; exact op0, rfl⟩ ?_
  clear op0
  rintro m2 g2 L' ⟨q, h', e12, hqm, o4, rfl⟩
  refine JC.pin 16 e12 ?_
  have hfl := fill_len (fun x => thF (vs.map (·.l)) (hasB (x, 0))) (N := 2 ^ N) (q := q) (by omega)
  have hrl : (List.replicate (2 ^ N) false).length = 2 ^ N := List.length_replicate
  rcases Nat.lt_or_ge q (2 ^ N) with hlt | hge
  ·
    have okx : okS (q, 0) := ⟨by show q < 2 ^ 64; exact Nat.lt_trans hlt (Nat.lt_of_le_of_lt h2n (by decide)), by show 0 < 2 ^ 64; decide⟩
    have cE := fun w hw => eval05_any N aT cap vs (q, 0) okx hT ll hok (fun u hu => has0_le hlt hu) w hw
    have hfs := fill_s (fun x => thF (vs.map (·.l)) (hasB (x, 0))) hlt
    have hfi : thF (vs.map (·.l)) (hasB (q, 0)) = evT (hasB (q, 0)) (vs.map (·.l)) := rfl
    rw [← hfi] at cE
    repeat' first
      | (refine J.isJ ?_; first | (first | (refine J.o 4 ?_; first | refine J.lR hΓ ?_ (hr := Rd.hd) | refine J.lR hΓ ?_ (hr := Rd.hd.tl.tl.tl)) | (refine J.o 2 ?_; refine J.gcv (a := q) hΓ ?_ (hk := wU64 (by omega))) | (refine J.fc 33 ?_; refine J.call0 eEval05 rfl rfl (fun w hw => cE w (hw.rdH (q0 _))) ?_) | (refine J.o 3 ?_; refine J.iJ hΓ ?_ (hs := o4.sl)) | (refine J.o 5 ?_; refine J.perm br1 ?_; refine J.tT (enc := encBo) (thF (vs.map (·.l)) (hasB (q, 0))) default hΓ (fun h5 o5 => ?_) (ho := o4))) | (first | (refine J.o 0 ?_; refine J.ev' hΓ ?_) | refine J.nil ?_ | (refine J.o 4 ?_; first | refine J.lR hΓ ?_) | (refine J.o 3 ?_; first | refine J.iJ hΓ ?_ | refine J.ev' hΓ ?_) | (refine J.o 1 ?_; first | refine J.ad ?_) | (refine J.o 5 ?_; first | refine J.t0 hΓ ?_ | refine J.t1 hΓ ?_ | refine J.t2 hΓ ?_ | refine J.tT _ default hΓ (fun _ _ => ?_)) | (refine J.o 6 ?_; refine J.bx (fun _ => ?_)) | (refine J.o 7 ?_; refine J.al hΓ (fun _ => ?_)) | (refine J.o 8 ?_; refine J.bd hΓ ?_) | (refine J.o 10 ?_; refine J.ev' hΓ ?_) | (refine J.o 11 ?_; refine J.ev' hΓ ?_)))
      | (first | refine JC.seq ?_ | refine JC.region ?_ | refine JC.block ?_ | refine JC.ret ?_ | refine JC.exit ?_ | refine JC.skip ?_ | refine thenK.nn ?_ | refine thenK.x ?_ | refine blockK.nn ?_ | refine blockK.hit rfl ?_ | (refine JC.cond rfl (fun hc => ?_) (fun hc => ?_) <;> ((try simp only [decide_eq_true_eq, decide_eq_false_iff_not, beq_iff_eq, beq_eq_false_iff_ne, bne_iff_ne, bne_eq_false_iff_eq, Bool.not_eq_true', Bool.not_eq_false', Bool.not_eq_true, Bool.not_eq_false] at hc) <;> first | (first | (exact absurd rfl hc) | (exfalso; omega) | (exact absurd (hc.symm.trans (by assumption : _ = false)) (by decide)) | (exact absurd (hc.symm.trans (by assumption : _ = true)) (by decide))) | skip)) | refine drawK.nn ?_ | refine loopK.x ?_)
      | ((first | refine JC.drawO [(0,0),(1,1),(0,2),(1,3),(0,4),(0,5),(0,6),(1,7),(1,8),(2,9)] (by decide +kernel) (by decide +kernel) ?_))
      | fail
    all_goals first | (exfalso; omega) | skip
    rw [hfs] at o5
    refine loopK.np (m2 - 1) [] _ (by omega) (by repeat (first | refine Ag.upd rfl ?_ | exact Ag.hv)) br1 ⟨q + 1, _, ?_, by omega, o5, rfl⟩
    show Value.int .i64 _ = _; congr 1
  ·
    obtain rfl : q = 2 ^ N := by omega
    rw [fill_n] at o4
    repeat' first
      | (refine J.isJ ?_; first | (first | (refine J.o 4 ?_; first | refine J.lR hΓ ?_ (hr := Rd.hd) | refine J.lR hΓ ?_ (hr := Rd.hd.tl.tl.tl))) | (first | (refine J.o 0 ?_; refine J.ev' hΓ ?_) | refine J.nil ?_ | (refine J.o 4 ?_; first | refine J.lR hΓ ?_) | (refine J.o 3 ?_; first | refine J.iJ hΓ ?_ | refine J.ev' hΓ ?_) | (refine J.o 1 ?_; first | refine J.ad ?_) | (refine J.o 5 ?_; first | refine J.t0 hΓ ?_ | refine J.t1 hΓ ?_ | refine J.t2 hΓ ?_ | refine J.tT _ default hΓ (fun _ _ => ?_)) | (refine J.o 6 ?_; refine J.bx (fun _ => ?_)) | (refine J.o 7 ?_; refine J.al hΓ (fun _ => ?_)) | (refine J.o 8 ?_; refine J.bd hΓ ?_) | (refine J.o 10 ?_; refine J.ev' hΓ ?_) | (refine J.o 11 ?_; refine J.ev' hΓ ?_)))
      | (first | refine JC.seq ?_ | refine JC.region ?_ | refine JC.block ?_ | refine JC.ret ?_ | refine JC.exit ?_ | refine JC.skip ?_ | refine thenK.nn ?_ | refine thenK.x ?_ | refine blockK.nn ?_ | refine blockK.hit rfl ?_ | (refine JC.cond rfl (fun hc => ?_) (fun hc => ?_) <;> ((try simp only [decide_eq_true_eq, decide_eq_false_iff_not, beq_iff_eq, beq_eq_false_iff_ne, bne_iff_ne, bne_eq_false_iff_eq, Bool.not_eq_true', Bool.not_eq_false', Bool.not_eq_true, Bool.not_eq_false] at hc) <;> first | (first | (exact absurd rfl hc) | (exfalso; omega) | (exact absurd (hc.symm.trans (by assumption : _ = false)) (by decide)) | (exact absurd (hc.symm.trans (by assumption : _ = true)) (by decide))) | skip)) | refine drawK.nn ?_ | refine loopK.x ?_)
      | (fail)
      | fail
    all_goals first | (exfalso; omega) | skip
    refine retC hΓ rfl rfl rfl Rd.hd.tl.tl rfl (fun w1 hw => Gives.of (H.sel (l := [_, _, _, _]) (M := []) hw [1]) ⟨_, _, rfl, o4.sl⟩)
theorem stands_any {F : VF} {l : List Int} {K : KS} {s : SS} {y : Nat} {hO hP : Heap} (sv : Stv F l K s y hO hP) (N : Nat) (hN : N ≤ 8) (hp : l.Perm (ints N)) (hF : DepN N F) (al : Option Addr) (cl : Nat) (hl : Heap) (hsl : SlT encI 1 al l hl) (aF : Option Addr) (cF : Nat) (hFn : Heap) (hsF : SlT encBo 1 aF (tabX N F) hFn) {w0 w : World} {R : Heap} {L : List Heap} {bs : Nat} (rS : RdH R L (stR K bs s hO)) (rl : RdH R L hl) (rF : RdH R L hFn) (hw : H w0 R L w) :
    Calls Tryz.prog 11 #[.pointer (some ⟨bs, 0, none⟩), .int .i64 (y : Int), .agg ⟨[.int .i64 (N : Int), .slice aF (2 ^ N) cF]⟩, .slice al l.length cl] w fun e w' => ∃ v L', e = .returned v ∧ H w0 R L' w' ∧ v = .bool true ∧ L' = L := by
  have so := sv.so
  have ha := sv.sy.1
  have h2n := pow8 hN
  have hll : l.length = N := by rw [hp.length_eq, ints_len]
  have hmv : ∀ v : Int, v ∈ l → v ≤ N := fun v h => by rw [hp.mem_iff, ints_mem] at h; exact h.2
  have htl := tabX_len N F
  have hds : decide (l = l) = true := decide_eq_true rfl
  refine calls_in Tryz.func11 Tryz.ntmps11 rfl rfl (hw) ?_
  refine JC.seq ?_
  refine JC.region ?_
  refine J.isJ ?_
  refine J.o 6 ?_
  refine J.bx (fun b6 => ?_)
  repeat' first
    | (refine J.isJ ?_; first | (first | (refine J.o 4 ?_; refine J.lR hΓ ?_ (hr := Rd.hd))) | (first | (refine J.o 0 ?_; refine J.ev' hΓ ?_) | refine J.nil ?_ | (refine J.o 4 ?_; first | refine J.lT default hΓ ?_ | refine J.lR hΓ ?_) | (refine J.o 3 ?_; first | refine J.iJ hΓ ?_ | refine J.ev' hΓ ?_) | (refine J.o 1 ?_; first | refine J.ad ?_) | (refine J.o 6 ?_; refine J.bx (fun _ => ?_)) | (refine J.o 8 ?_; refine J.bd hΓ ?_) | (refine J.o 10 ?_; refine J.ev' hΓ ?_) | (refine J.o 11 ?_; refine J.ev' hΓ ?_)))
    | (first | refine JC.seq ?_ | refine JC.region ?_ | refine JC.block ?_ | refine JC.ret ?_ | refine JC.exit ?_ | refine JC.skip ?_ | refine thenK.nn ?_ | refine thenK.x ?_ | refine blockK.nn ?_ | refine blockK.hit rfl ?_ | refine JC.condF rfl ?_ | (refine JC.cond rfl (fun hc => ?_) (fun hc => ?_) <;> ((try simp only [decide_eq_true_eq, decide_eq_false_iff_not, beq_iff_eq, beq_eq_false_iff_ne, bne_iff_ne, bne_eq_false_iff_eq, Bool.not_eq_true', Bool.not_eq_false', Bool.not_eq_true, Bool.not_eq_false] at hc) <;> first | (first | (exact absurd rfl hc) | (exfalso; omega) | (exact absurd (hc.symm.trans (by assumption : _ = false)) (by decide)) | (exact absurd (hc.symm.trans (by assumption : _ = true)) (by decide))) | skip)) | refine loopK.x ?_)
    | (fail)
    | fail
  all_goals first | (exfalso; omega) | skip
  refine JC.loop (fun i => i == 9 || i == 10 || (Nat.ble 16 i && Nat.ble i 29)) (fun m g L' => ∃ q, g 16 = .int .i64 ((q : Nat) : Int) ∧ q + m = 2 ^ N ∧ L' = [(b6, .cells ⟨[.int .i64 (N : Int), .slice aF (2 ^ N) cF]⟩ 36 (0, 0))] :: L) (2 ^ N) ⟨0, rfl, by omega, rfl⟩ ?_
  rintro m2 g2 L' ⟨q, e12, hqm, rfl⟩
  refine JC.pin 16 e12 ?_
  rcases Nat.lt_or_ge q (2 ^ N) with hlt | hge
  ·
    have okx : okS (q, 0) := ⟨by show q < 2 ^ 64; exact Nat.lt_trans hlt (Nat.lt_of_le_of_lt h2n (by decide)), by show 0 < 2 ^ 64; decide⟩
    have cE := fun w hw => Eval_any so sv.po bs y ha (q, 0) okx w hw
    have hev : fn l.length s.ns y (asgS l (q, 0)) = F (hasB (q, 0)) := sv.sy.2 (hasB (q, 0))
    rw [hev] at cE
    have hget := tabX_get N F hlt
    cases hb : F (hasB (q, 0))
    all_goals
      rw [hb] at cE hget
      repeat' first
        | (refine J.isJ ?_; first | (first | (refine J.o 4 ?_; first | refine J.lR hΓ ?_ (hr := Rd.hd) | (refine J.lT default hΓ ?_ (hs := hsF) (hr := rF.tl); rw [hget])) | (refine J.o 2 ?_; refine J.gcv (a := q) hΓ ?_ (hk := wU64 (by omega))) | (refine J.fc 19 ?_; refine J.call0 eEvalS rfl rfl (fun w hw => cE w (stR_of2 rS.tl hw)) ?_) | (refine J.o 3 ?_; refine J.iJ hΓ ?_ (hs := hsF))) | (first | (refine J.o 0 ?_; refine J.ev' hΓ ?_) | refine J.nil ?_ | (refine J.o 4 ?_; first | refine J.lT default hΓ ?_ | refine J.lR hΓ ?_) | (refine J.o 3 ?_; first | refine J.iJ hΓ ?_ | refine J.ev' hΓ ?_) | (refine J.o 1 ?_; first | refine J.ad ?_) | (refine J.o 6 ?_; refine J.bx (fun _ => ?_)) | (refine J.o 8 ?_; refine J.bd hΓ ?_) | (refine J.o 10 ?_; refine J.ev' hΓ ?_) | (refine J.o 11 ?_; refine J.ev' hΓ ?_)))
        | (first | refine JC.seq ?_ | refine JC.region ?_ | refine JC.block ?_ | refine JC.ret ?_ | refine JC.exit ?_ | refine JC.skip ?_ | refine thenK.nn ?_ | refine thenK.x ?_ | refine blockK.nn ?_ | refine blockK.hit rfl ?_ | refine JC.condF rfl ?_ | (refine JC.cond rfl (fun hc => ?_) (fun hc => ?_) <;> ((try simp only [decide_eq_true_eq, decide_eq_false_iff_not, beq_iff_eq, beq_eq_false_iff_ne, bne_iff_ne, bne_eq_false_iff_eq, Bool.not_eq_true', Bool.not_eq_false', Bool.not_eq_true, Bool.not_eq_false] at hc) <;> first | (first | (exact absurd rfl hc) | (exfalso; omega) | (exact absurd (hc.symm.trans (by assumption : _ = false)) (by decide)) | (exact absurd (hc.symm.trans (by assumption : _ = true)) (by decide))) | skip)) | refine loopK.x ?_)
        | fail
      all_goals first | (exfalso; omega) | skip
      refine loopK.nn (m2 - 1) (by omega) (by repeat (first | refine Ag.upd rfl ?_ | exact Ag.hv)) ⟨q + 1, ?_, by omega, rfl⟩
      show Value.int .i64 _ = _; congr 1
  ·
    obtain rfl : q = 2 ^ N := by omega
    repeat' first
      | (refine J.isJ ?_; first | (first | (refine J.o 4 ?_; first | refine J.lR hΓ ?_ (hr := Rd.hd)) | (refine J.fc 16 ?_; refine J.callx eSize rfl rfl (fun w hw => Size_any so bs y ha (stR_b rS.tl) (stR_N rS.tl) hw) ?_; rintro _ _ ⟨l1, rfl, rfl, bel1⟩; have hs1 := nodesT_size (by omega) hF hp sv bel1) | (refine J.fc 40 ?_; refine J.call0 eSize31 rfl rfl (fun w hw => size31_any N hN F l sv.ho hmv (by omega) al cl hl hsl aF cF hFn hsF w ((hw.rdH rl.tl).append (hw.rdH rF.tl))) ?_) | (refine J.o 11 ?_; refine J.eqT2 hΓ hs1 ?_) | (refine J.fc 21 ?_; refine J.call1 eOrder rfl rfl (fun w hw => Order_any so sv.po bs w (stR_of2 rS.tl hw)) ?_; rintro _ ho ⟨ao, co, rfl, oo⟩) | (refine J.fc 25 ?_; refine J.call0 eSame3 rfl rfl (fun w hw => same3_any l l ao al co cl (ho ++ hl) (oo.sl.sub fun x hx => List.mem_append_left _ hx) (hsl.sub fun x hx => List.mem_append_right _ hx) (by omega) (by omega) w ((hw.rdH RdH.hd).append (hw.rdH rl.tl.tl))) ?_; rw [hds])) | (first | (refine J.o 0 ?_; refine J.ev' hΓ ?_) | refine J.nil ?_ | (refine J.o 4 ?_; first | refine J.lT default hΓ ?_ | refine J.lR hΓ ?_) | (refine J.o 3 ?_; first | refine J.iJ hΓ ?_ | refine J.ev' hΓ ?_) | (refine J.o 1 ?_; first | refine J.ad ?_) | (refine J.o 6 ?_; refine J.bx (fun _ => ?_)) | (refine J.o 8 ?_; refine J.bd hΓ ?_) | (refine J.o 10 ?_; refine J.ev' hΓ ?_) | (refine J.o 11 ?_; refine J.ev' hΓ ?_)))
      | (first | refine JC.seq ?_ | refine JC.region ?_ | refine JC.block ?_ | refine JC.ret ?_ | refine JC.exit ?_ | refine JC.skip ?_ | refine thenK.nn ?_ | refine thenK.x ?_ | refine blockK.nn ?_ | refine blockK.hit rfl ?_ | refine JC.condF rfl ?_ | (refine JC.cond rfl (fun hc => ?_) (fun hc => ?_) <;> ((try simp only [decide_eq_true_eq, decide_eq_false_iff_not, beq_iff_eq, beq_eq_false_iff_ne, bne_iff_ne, bne_eq_false_iff_eq, Bool.not_eq_true', Bool.not_eq_false', Bool.not_eq_true, Bool.not_eq_false] at hc) <;> first | (first | (exact absurd rfl hc) | (exfalso; omega) | (exact absurd (hc.symm.trans (by assumption : _ = false)) (by decide)) | (exact absurd (hc.symm.trans (by assumption : _ = true)) (by decide))) | skip)) | refine loopK.x ?_)
      | fail
    all_goals first | (exfalso; omega) | skip
    refine ret1f rfl rfl rfl (fun w1 hw => ⟨_, _, rfl, hw.drop.drop, rfl, rfl⟩)
end Go.Proofs.YtbhgahjeocnfcaaGreat
namespace Go.Proofs.YtbhgahjeocnfcaaGreat
open Go Go.Cx Go.RowKit
set_option linter.unusedVariables false
set_option linter.unusedSimpArgs false
set_option maxHeartbeats 4000000
attribute [local irreducible] J JC thenK blockK loopK roundK drawK retK QW Qt pel List.set Calls
open Go.Maps Go.Lib
set_option maxRecDepth 8000
attribute [local irreducible] JE Br eK0 eK3 brK pc
theorem th_dep {N : Nat} {T : List (List Int)} (hok : okTh N T) : DepN N (thF T) := fun b c h => evT_congr hok h
theorem sift_facts {F : VF} {N : Nat} (h8 : N ≤ 8) (hF : DepN N F) {o : List Int} (hp : o.Perm (ints N)) {K : KS} {s : SS} {a : Nat} {hO hP : Heap} (sv : Stv F o K s a hO hP) {W : Int → Nat} (wt : WtOf s.ns o a W) : (∀ u : Nat, 1 ≤ u → u ≤ N → cntT N o (nodesT N o F (o.length + 1)) (u : Int) = W (u : Int)) ∧ (∀ u, W u ≤ 1000) ∧ (nodesT N o F (o.length + 1)).length ≤ 100000 := by
  have hl : o.length = N := by rw [hp.length_eq, ints_len]
  have so := sv.so
  have ha := sv.sy.1
  refine ⟨fun u h1 h2 => ?_, ?_⟩
  · unfold cntT
    exact wt_nodes (by omega) hF hp sv wt (hp.mem_iff.2 ((ints_mem _ _).2 ⟨by omega, by omega⟩))
  · obtain ⟨S, hSn, hSm, hSc⟩ := wt
    have h2 := rch_len so.wf ha hSn (fun x hx => ((hSm x).1 hx).2)
    have h3 := pow8 (show o.length ≤ 8 by omega)
    refine ⟨fun u => ?_, ?_⟩
    · have h1 : cntV s.ns o S u ≤ S.length := List.length_filter_le _ _
      rw [hSc]
      omega
    · obtain ⟨hn, hll⟩ := nodesT_nd N (by omega) o F (o.length + 1)
      have key := len_fn sv.ho.2 so.wf hSn (fun j hj => ((hSm j).1 hj).2.lt so.wf ha) (vfT_nd (by omega) hn hll) (nodesT_key (by omega) hF hp so.wf sv.ho sv.sy hSm)
      rw [List.length_map] at key
      omega
set_option maxHeartbeats 16000000 in
theorem sifts31_any (N : Int) (aT : Option Addr) (cap : Nat) (vs : List HV) (hT : Heap) (ll : LLR aT vs hT) (ks : List Nat) (ak : Option Addr) (ck : Nat) (hk : Heap) (hs : SlT encK 1 ak ks hk) (hkl : ks.length ≤ 9223372036854775807) (hkb : ∀ k ∈ ks, k < 256) (w : World) (hw1 : Holds (hT ++ hk) w) :
    Calls Tryz.prog 3 #[.agg ⟨[.int .i64 N, .slice aT vs.length cap]⟩, .slice ak ks.length ck] w fun e w' => e = .returned (.bool true) ∧ Below w.heap.size w w' := by
  have qT : ∀ L, RdH (hT ++ hk) L hT := fun L => RdH.old fun _ hh => List.mem_append_left _ hh
  have qK : ∀ L, RdH (hT ++ hk) L hk := fun L => RdH.old fun _ hh => List.mem_append_right _ hh
  have cS := fun w hw => small_any 5 (by omega) N aT cap vs hT ll w hw
  by_cases hsm : smallP 5 N (vs.map (·.l))
  case neg =>
    rw [decide_eq_false hsm] at cS
    refine calls_of_JC (R := (hT ++ hk)) Tryz.func3 Tryz.ntmps3 rfl rfl (hw1) ?_
    repeat' first
      | (refine J.isJ ?_; first | (first | (refine J.o 6 ?_; refine J.bx (fun b3 => ?_)) | (refine J.o 4 ?_; refine J.lR hΓ ?_ (hr := Rd.hd)) | (refine J.fc 5 ?_; refine J.call0 eSmall rfl rfl (fun w hw => cS w (hw.rdH (qT _))) ?_) | (refine J.fc 6 ?_; refine J.call0 eWorks31 rfl rfl (fun w hw => works31_any w) ?_)) | (first | (refine J.o 0 ?_; refine J.ev' hΓ ?_) | refine J.nil ?_ | (refine J.o 4 ?_; first | refine J.lR hΓ ?_) | (refine J.o 3 ?_; first | refine J.ev' hΓ ?_) | (refine J.o 5 ?_; first | refine J.t0 hΓ ?_) | (refine J.o 6 ?_; refine J.bx (fun _ => ?_)) | (refine J.o 7 ?_; refine J.al hΓ (fun _ => ?_)) | (refine J.o 10 ?_; refine J.ev' hΓ ?_) | (refine J.o 11 ?_; refine J.ev' hΓ ?_)))
      | (first | refine JC.seq ?_ | refine JC.region ?_ | refine JC.ret ?_ | refine JC.skip ?_ | refine thenK.nn ?_ | refine thenK.r ?_ | refine JC.condT rfl ?_ | refine JC.condF rfl ?_ | refine drawK.nn ?_)
      | (fail)
      | fail
    all_goals first | (exfalso; omega) | skip
    all_goals (refine ret1f rfl rfl rfl (fun w1 hw => ⟨rfl, hw.below⟩))
  rw [decide_eq_true hsm] at cS
  obtain ⟨n, rfl, hn5, hok, hco⟩ := smallP_ok (n := 5) (by omega) hsm
  have hdep := th_dep hok
  refine calls_of_JC (R := (hT ++ hk)) Tryz.func3 Tryz.ntmps3 rfl rfl (hw1) ?_
  repeat' first
    | (refine J.isJ ?_; first | (first | (refine J.o 6 ?_; refine J.bx (fun b3 => ?_)) | (refine J.o 4 ?_; first | refine J.lR hΓ ?_ (hr := Rd.hd) | refine J.lR hΓ ?_ (hr := Rd.hd.tl) | refine J.lR hΓ ?_ (hr := Rd.app _ Rd.hd.tl.tl.tl)) | (refine J.fc 5 ?_; refine J.call0 eSmall rfl rfl (fun w hw => cS w (hw.rdH (qT _))) ?_) | (refine J.fc 7 ?_; refine J.call1 eOrder31 rfl rfl (fun w hw => order31_any n (by omega) ks ak ck hk hs hkl hkb w (hw.rdH (qK _))) ?_; rintro _ hO ⟨aO, l, cO, rfl, hp, oO⟩; have hll : l.length = n := (by rw [hp.length_eq, ints_len])) | (refine J.fc 8 ?_; refine J.callx eCom rfl rfl (fun w hw => compile_V n (by omega) l hp aO cO hO oO.sl aT cap vs hT ll _ rfl hok hco RdH.hd (qT _) hw) ?_; rintro _ _ ⟨b1, K1, s1, y1, hO1, hP1, rfl, rfl, sv1⟩) | (refine J.fc 9 ?_; refine J.call1 eFunc31 rfl rfl (fun w hw => func31_any n (by omega) aT cap vs hT ll hok w (hw.rdH (qT _))) ?_; rintro _ hF ⟨aF, cF, rfl, oF⟩) | (refine J.o 7 ?_; refine J.al hΓ (fun b11 => ?_)) | (refine J.fc 10 ?_; refine J.callx eSift rfl rfl (fun w hw => Sift_any sv1 (by omega) (stR_hd _).tl.tl hw) ?_; rintro _ _ ⟨W, q, wt, hqp, hqs, b2, K2, s2, y2, hO2, hP2, rfl, rfl, sv2⟩)) | (first | (refine J.o 0 ?_; refine J.ev' hΓ ?_) | refine J.nil ?_ | (refine J.o 4 ?_; first | refine J.lR hΓ ?_) | (refine J.o 3 ?_; first | refine J.ev' hΓ ?_) | (refine J.o 5 ?_; first | refine J.t0 hΓ ?_) | (refine J.o 6 ?_; refine J.bx (fun _ => ?_)) | (refine J.o 7 ?_; refine J.al hΓ (fun _ => ?_)) | (refine J.o 10 ?_; refine J.ev' hΓ ?_) | (refine J.o 11 ?_; refine J.ev' hΓ ?_)))
    | (first | refine JC.seq ?_ | refine JC.region ?_ | refine JC.ret ?_ | refine JC.skip ?_ | refine thenK.nn ?_ | refine thenK.r ?_ | refine JC.condT rfl ?_ | refine JC.condF rfl ?_ | refine drawK.nn ?_)
    | (fail)
    | fail
  all_goals first | (exfalso; omega) | skip
  obtain ⟨hW, hWb, hnT⟩ := sift_facts (by omega) hdep hp sv1 wt
  have ho := sv1.ho
  have hp2 := (sftO_perm (thF (vs.map (·.l))) q l (fun v hv => hqp.mem_iff.1 hv) ho.2).trans hp
  have cF31 := fun w hw => sifted31_any n (by omega) (thF (vs.map (·.l))) hdep l hp ho W hW hWb hnT q hqp hqs aO cO hO oO.sl aF cF hF oF w hw
  repeat' first
    | (refine J.isJ ?_; first | (first | (refine J.o 4 ?_; first | refine J.lR hΓ ?_ (hr := Rd.app _ Rd.hd.tl.tl) | refine J.lR hΓ ?_ (hr := (Rd.app _ Rd.hd.tl.tl).tl)) | (refine J.fc 11 ?_; first | (refine J.callx eStands rfl rfl (fun w hw => stands_any sv1 n (by omega) hp hdep aO cO hO oO.sl aF cF hF oF (stR_tl (stR_hd _).tl.tl K2 b2 s2 hO2 hP2) (stR_tl (stR_tl RdH.hd K1 b1 s1 hO1 hP1).tl.tl K2 b2 s2 hO2 hP2) (stR_tl RdH.hd.tl K2 b2 s2 hO2 hP2) hw) ?_; rintro _ _ ⟨rfl, rfl⟩) | (refine J.callx eStands rfl rfl (fun w hw => stands_any sv2 n (by omega) hp2 hdep aN cN (hN ++ hO) sN aF cF hF oF (stR_hd _).tl (RdH.hd.append (stR_tl (stR_tl RdH.hd K1 b1 s1 hO1 hP1).tl.tl K2 b2 s2 hO2 hP2).tl) (stR_tl RdH.hd.tl K2 b2 s2 hO2 hP2).tl hw) ?_; rintro _ _ ⟨rfl, rfl⟩)) | (refine J.fc 12 ?_; refine J.call1 eSifted31 rfl rfl (fun w hw => cF31 w ((hw.rdH (stR_tl (stR_tl RdH.hd K1 b1 s1 hO1 hP1).tl.tl K2 b2 s2 hO2 hP2)).append (hw.rdH (stR_tl RdH.hd.tl K2 b2 s2 hO2 hP2)))) ?_; rintro _ hN ⟨aN, cN, rfl, sN⟩) | (refine J.fc 6 ?_; refine J.call0 eWorks31 rfl rfl (fun w hw => works31_any w) ?_)) | (first | (refine J.o 0 ?_; refine J.ev' hΓ ?_) | refine J.nil ?_ | (refine J.o 4 ?_; first | refine J.lR hΓ ?_) | (refine J.o 3 ?_; first | refine J.ev' hΓ ?_) | (refine J.o 5 ?_; first | refine J.t0 hΓ ?_) | (refine J.o 6 ?_; refine J.bx (fun _ => ?_)) | (refine J.o 7 ?_; refine J.al hΓ (fun _ => ?_)) | (refine J.o 10 ?_; refine J.ev' hΓ ?_) | (refine J.o 11 ?_; refine J.ev' hΓ ?_)))
    | (first | refine JC.seq ?_ | refine JC.region ?_ | refine JC.ret ?_ | refine JC.skip ?_ | refine thenK.nn ?_ | refine thenK.r ?_ | refine JC.condT rfl ?_ | refine JC.condF rfl ?_ | refine drawK.nn ?_)
    | ((refine JC.drawO [(0,0),(0,1),(0,2),(0,3),(0,4),(1,5),(0,6),(2,7),(0,8),(0,9),(0,10),(0,11),(1,12),(1,13),(0,14),(3,15),(2,16),(0,17),(0,18),(1,19),(0,20),(0,21)] (by kernel_rfl) (by kernel_rfl) ?_))
    | fail
  all_goals first | (exfalso; omega) | skip
  all_goals (refine ret1f rfl rfl rfl (fun w1 hw => ⟨rfl, hw.below⟩))
end Go.Proofs.YtbhgahjeocnfcaaGreat
