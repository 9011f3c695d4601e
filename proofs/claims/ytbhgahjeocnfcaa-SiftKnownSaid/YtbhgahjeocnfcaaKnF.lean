/- SiftKnown: part 6. -/
import Derived.Test.YtbhgahjeocnfcaaKnE
namespace Go.Proofs.Ytbhgahjeocnfcaa
open Go Go.Cx Go.RowKit
set_option linter.unusedVariables false
set_option linter.unusedSimpArgs false
set_option maxHeartbeats 4000000
attribute [local irreducible] J JC thenK blockK loopK roundK drawK retK QW Qt pel List.set Calls
open Go.Maps
set_option maxRecDepth 8000
attribute [local irreducible] JE Br eK0 eK3 brK
theorem chL_any (n : Nat) (K : KS) (b c1 c2 : Nat) {c s0 : Nat} {Φ : Nat → List ((Nat → Bool) → Bool)} (lv : Lev n Φ c) (h20 : 2 ≤ s0) (hc : s0 + c < 1048576) : ∀ (m k : Nat) (s : SS) (x : T3), n - k = m → SOk n K s → x.lt s.ns.length → x.from s.ns k → s0 ≤ s.ns.length → InG n Φ s.ns s0 → InL n Φ k (iteF n s.ns x) →
    ∀ {w0 w : World} {R : Heap} {L : List Heap}, H w0 R (sF K b s ++ L) w → Rd R L c1 (ptrS b) → Rd R L c2 (fnC c1 c2) →
    Calls Try.prog 116 #[ekT x, .pointer (some ⟨c1, 0, none⟩), .pointer (some ⟨c2, 0, none⟩)] w fun e w' => ∃ v L', e = .returned v ∧ H w0 R L' w' ∧ ∃ s' y, v = .int .i64 ((y : Nat) : Int) ∧ L' = sF K b s' ++ L ∧ Adds n K s s' 1048576 y ∧ Ite n s'.ns x y ∧ InG n Φ s'.ns s0 := by
  intro m
  induction m using Nat.strongRecOn with
  | ind m ih =>
  intro k s x hm so hx hf hs0 hin hG w0 w R L hw r1 r2
  have n8 := so.n8
  have hno := so.no
  have sm := so.sm
  have hwf := so.wf
  have hx1 := hx.1
  have hx2 := hx.2.1
  have hx3 := hx.2.2
  have two := hwf.two
  have adz : ∀ y, y < s.ns.length → Adds n K s s 1048576 y := fun y hy => ⟨so, Ext.refl _, by omega, hy⟩
  by_cases hA : x.a = 1 ∨ x.b = x.c
  · unfold sF at hw
    simp only [List.cons_append, List.nil_append] at hw
    rcases hA with hA1 | hA1
    all_goals
      refine calls_in Try.func116 Try.ntmps116 rfl rfl (hw) ?_
      unfold stO ekT
      repeat' first
        | (refine J.isJ ?_; first | (first | (refine J.o 0 ?_; refine J.ev' hΓ ?_) | refine J.nil ?_ | refine J.kd ?_ | (refine J.o 4 ?_; first | refine J.lT default hΓ ?_ | refine J.lR hΓ ?_) | (refine J.o 3 ?_; first | refine J.iA hΓ ?_ | refine J.iJ hΓ ?_ | refine J.fP hΓ ?_ | refine J.ev' hΓ ?_) | (refine J.o 1 ?_; first | refine J.ad ?_) | (refine J.o 5 ?_; first | refine J.t0 hΓ ?_ | refine J.t1 hΓ ?_) | (refine J.o 6 ?_; refine J.bx (fun _ => ?_)) | (refine J.o 7 ?_; refine J.al hΓ (fun _ => ?_)) | (refine J.o 10 ?_; refine J.ev' hΓ ?_) | (refine J.o 11 ?_; refine J.ev' hΓ ?_)) | ((fail_if_success refine J.wt ?_); refine J.gc rfl rfl (fun hc => ?_) (fun hc => ?_) <;> ((try simp only [decide_eq_true_eq, decide_eq_false_iff_not, beq_iff_eq, beq_eq_false_iff_ne, bne_iff_ne, bne_eq_false_iff_eq, Bool.not_eq_true', Bool.not_eq_false', Bool.not_eq_true, Bool.not_eq_false] at hc) <;> first | (first | (exact absurd rfl hc) | (exfalso; omega) | (exact absurd (hc.symm.trans (by assumption : _ = false)) (by decide)) | (exact absurd (hc.symm.trans (by assumption : _ = true)) (by decide))) | skip)))
        | (first | refine JC.seq ?_ | refine JC.region ?_ | refine JC.block ?_ | refine JC.ret ?_ | refine JC.exit ?_ | refine JC.skip ?_ | refine thenK.nn ?_ | refine thenK.r ?_ | refine thenK.x ?_ | refine blockK.nn ?_ | refine blockK.r ?_ | refine blockK.hit rfl ?_ | refine JC.condT rfl ?_ | refine JC.condF rfl ?_ | (refine JC.cond rfl (fun hc => ?_) (fun hc => ?_) <;> ((try simp only [decide_eq_true_eq, decide_eq_false_iff_not, beq_iff_eq, beq_eq_false_iff_ne, bne_iff_ne, bne_eq_false_iff_eq, Bool.not_eq_true', Bool.not_eq_false', Bool.not_eq_true, Bool.not_eq_false] at hc) <;> first | (first | (exact absurd rfl hc) | (exfalso; omega) | (exact absurd (hc.symm.trans (by assumption : _ = false)) (by decide)) | (exact absurd (hc.symm.trans (by assumption : _ = true)) (by decide))) | skip)) | refine drawK.nn ?_ | refine loopK.x ?_)
        | (fail)
        | fail
      all_goals first | (exfalso; omega) | skip
      all_goals (refine ret1f rfl rfl rfl (fun w1 hw => ⟨_, _, rfl, hw.drop, s, x.b, rfl, rfl, adz _ hx2, Ite.t1 hwf hx ?_, hin⟩))
      all_goals first | exact .inl hA1 | exact .inr hA1
  by_cases hB : x.a = 0
  · unfold sF at hw
    simp only [List.cons_append, List.nil_append] at hw
    refine calls_in Try.func116 Try.ntmps116 rfl rfl (hw) ?_
    unfold stO ekT
    repeat' first
      | (refine J.isJ ?_; first | (first | (refine J.o 0 ?_; refine J.ev' hΓ ?_) | refine J.nil ?_ | refine J.kd ?_ | (refine J.o 4 ?_; first | refine J.lT default hΓ ?_ | refine J.lR hΓ ?_) | (refine J.o 3 ?_; first | refine J.iA hΓ ?_ | refine J.iJ hΓ ?_ | refine J.fP hΓ ?_ | refine J.ev' hΓ ?_) | (refine J.o 1 ?_; first | refine J.ad ?_) | (refine J.o 5 ?_; first | refine J.t0 hΓ ?_ | refine J.t1 hΓ ?_) | (refine J.o 6 ?_; refine J.bx (fun _ => ?_)) | (refine J.o 7 ?_; refine J.al hΓ (fun _ => ?_)) | (refine J.o 10 ?_; refine J.ev' hΓ ?_) | (refine J.o 11 ?_; refine J.ev' hΓ ?_)) | ((fail_if_success refine J.wt ?_); refine J.gc rfl rfl (fun hc => ?_) (fun hc => ?_) <;> ((try simp only [decide_eq_true_eq, decide_eq_false_iff_not, beq_iff_eq, beq_eq_false_iff_ne, bne_iff_ne, bne_eq_false_iff_eq, Bool.not_eq_true', Bool.not_eq_false', Bool.not_eq_true, Bool.not_eq_false] at hc) <;> first | (first | (exact absurd rfl hc) | (exfalso; omega) | (exact absurd (hc.symm.trans (by assumption : _ = false)) (by decide)) | (exact absurd (hc.symm.trans (by assumption : _ = true)) (by decide))) | skip)))
      | (first | refine JC.seq ?_ | refine JC.region ?_ | refine JC.block ?_ | refine JC.ret ?_ | refine JC.exit ?_ | refine JC.skip ?_ | refine thenK.nn ?_ | refine thenK.r ?_ | refine thenK.x ?_ | refine blockK.nn ?_ | refine blockK.r ?_ | refine blockK.hit rfl ?_ | refine JC.condT rfl ?_ | refine JC.condF rfl ?_ | (refine JC.cond rfl (fun hc => ?_) (fun hc => ?_) <;> ((try simp only [decide_eq_true_eq, decide_eq_false_iff_not, beq_iff_eq, beq_eq_false_iff_ne, bne_iff_ne, bne_eq_false_iff_eq, Bool.not_eq_true', Bool.not_eq_false', Bool.not_eq_true, Bool.not_eq_false] at hc) <;> first | (first | (exact absurd rfl hc) | (exfalso; omega) | (exact absurd (hc.symm.trans (by assumption : _ = false)) (by decide)) | (exact absurd (hc.symm.trans (by assumption : _ = true)) (by decide))) | skip)) | refine drawK.nn ?_ | refine loopK.x ?_)
      | (fail)
      | fail
    all_goals first | (exfalso; omega) | skip
    all_goals (refine ret1f rfl rfl rfl (fun w1 hw => ⟨_, _, rfl, hw.drop, s, x.c, rfl, rfl, adz _ hx3, Ite.t2 hwf hx hB, hin⟩))
  by_cases hC : x.b = 1 ∧ x.c = 0
  · unfold sF at hw
    simp only [List.cons_append, List.nil_append] at hw
    refine calls_in Try.func116 Try.ntmps116 rfl rfl (hw) ?_
    unfold stO ekT
    repeat' first
      | (refine J.isJ ?_; first | (first | (refine J.o 0 ?_; refine J.ev' hΓ ?_) | refine J.nil ?_ | refine J.kd ?_ | (refine J.o 4 ?_; first | refine J.lT default hΓ ?_ | refine J.lR hΓ ?_) | (refine J.o 3 ?_; first | refine J.iA hΓ ?_ | refine J.iJ hΓ ?_ | refine J.fP hΓ ?_ | refine J.ev' hΓ ?_) | (refine J.o 1 ?_; first | refine J.ad ?_) | (refine J.o 5 ?_; first | refine J.t0 hΓ ?_ | refine J.t1 hΓ ?_) | (refine J.o 6 ?_; refine J.bx (fun _ => ?_)) | (refine J.o 7 ?_; refine J.al hΓ (fun _ => ?_)) | (refine J.o 10 ?_; refine J.ev' hΓ ?_) | (refine J.o 11 ?_; refine J.ev' hΓ ?_)) | ((fail_if_success refine J.wt ?_); refine J.gc rfl rfl (fun hc => ?_) (fun hc => ?_) <;> ((try simp only [decide_eq_true_eq, decide_eq_false_iff_not, beq_iff_eq, beq_eq_false_iff_ne, bne_iff_ne, bne_eq_false_iff_eq, Bool.not_eq_true', Bool.not_eq_false', Bool.not_eq_true, Bool.not_eq_false] at hc) <;> first | (first | (exact absurd rfl hc) | (exfalso; omega) | (exact absurd (hc.symm.trans (by assumption : _ = false)) (by decide)) | (exact absurd (hc.symm.trans (by assumption : _ = true)) (by decide))) | skip)))
      | (first | refine JC.seq ?_ | refine JC.region ?_ | refine JC.block ?_ | refine JC.ret ?_ | refine JC.exit ?_ | refine JC.skip ?_ | refine thenK.nn ?_ | refine thenK.r ?_ | refine thenK.x ?_ | refine blockK.nn ?_ | refine blockK.r ?_ | refine blockK.hit rfl ?_ | refine JC.condT rfl ?_ | refine JC.condF rfl ?_ | (refine JC.cond rfl (fun hc => ?_) (fun hc => ?_) <;> ((try simp only [decide_eq_true_eq, decide_eq_false_iff_not, beq_iff_eq, beq_eq_false_iff_ne, bne_iff_ne, bne_eq_false_iff_eq, Bool.not_eq_true', Bool.not_eq_false', Bool.not_eq_true, Bool.not_eq_false] at hc) <;> first | (first | (exact absurd rfl hc) | (exfalso; omega) | (exact absurd (hc.symm.trans (by assumption : _ = false)) (by decide)) | (exact absurd (hc.symm.trans (by assumption : _ = true)) (by decide))) | skip)) | refine drawK.nn ?_ | refine loopK.x ?_)
      | (fail)
      | fail
    all_goals first | (exfalso; omega) | skip
    all_goals (refine ret1f rfl rfl rfl (fun w1 hw => ⟨_, _, rfl, hw.drop, s, x.a, rfl, rfl, adz _ hx1, Ite.t3 hwf hx hC.1 hC.2, hin⟩))
  have hkey := kT_key x ⟨by omega, by omega, by omega⟩
  have mm := so.mm
  have rc1 := r1
  unfold ptrS at rc1
  cases hget : mget s.m x with
  | some y =>
    obtain ⟨_, hite⟩ := so.mo x y (mget_mem hget)
    unfold sF at hw
    simp only [List.cons_append, List.nil_append] at hw
    refine calls_in Try.func116 Try.ntmps116 rfl rfl (hw) ?_
    unfold stO ekT
    repeat' first
      | (refine J.isJ ?_; first | (first | (refine J.o 4 ?_; refine J.lR hΓ ?_ (hr := rc1.tl.tl.tl.tl.tl)) | (refine J.o 9 ?_; refine J.lk (a := x) kT ekT_inj mm (by first | exact RdH.hd | exact RdH.hd.tl | exact RdH.hd.tl.tl | exact RdH.hd.tl.tl.tl | exact RdH.hd.tl.tl.tl.tl | exact RdH.hd.tl.tl.tl.tl.tl | exact RdH.hd.tl.tl.tl.tl.tl.tl | exact RdH.hd.tl.tl.tl.tl.tl.tl.tl | exact RdH.old (fun _ hh => hh) | assumption) hkey hΓ ?_; rw [hget])) | (first | (refine J.o 0 ?_; refine J.ev' hΓ ?_) | refine J.nil ?_ | refine J.kd ?_ | (refine J.o 4 ?_; first | refine J.lT default hΓ ?_ | refine J.lR hΓ ?_) | (refine J.o 3 ?_; first | refine J.iA hΓ ?_ | refine J.iJ hΓ ?_ | refine J.fP hΓ ?_ | refine J.ev' hΓ ?_) | (refine J.o 1 ?_; first | refine J.ad ?_) | (refine J.o 5 ?_; first | refine J.t0 hΓ ?_ | refine J.t1 hΓ ?_) | (refine J.o 6 ?_; refine J.bx (fun _ => ?_)) | (refine J.o 7 ?_; refine J.al hΓ (fun _ => ?_)) | (refine J.o 10 ?_; refine J.ev' hΓ ?_) | (refine J.o 11 ?_; refine J.ev' hΓ ?_)) | ((fail_if_success refine J.wt ?_); refine J.gc rfl rfl (fun hc => ?_) (fun hc => ?_) <;> ((try simp only [decide_eq_true_eq, decide_eq_false_iff_not, beq_iff_eq, beq_eq_false_iff_ne, bne_iff_ne, bne_eq_false_iff_eq, Bool.not_eq_true', Bool.not_eq_false', Bool.not_eq_true, Bool.not_eq_false] at hc) <;> first | (first | (exact absurd rfl hc) | (exfalso; omega) | (exact absurd (hc.symm.trans (by assumption : _ = false)) (by decide)) | (exact absurd (hc.symm.trans (by assumption : _ = true)) (by decide))) | skip)))
      | (first | refine JC.seq ?_ | refine JC.region ?_ | refine JC.block ?_ | refine JC.ret ?_ | refine JC.exit ?_ | refine JC.skip ?_ | refine thenK.nn ?_ | refine thenK.r ?_ | refine thenK.x ?_ | refine blockK.nn ?_ | refine blockK.r ?_ | refine blockK.hit rfl ?_ | refine JC.condT rfl ?_ | refine JC.condF rfl ?_ | (refine JC.cond rfl (fun hc => ?_) (fun hc => ?_) <;> ((try simp only [decide_eq_true_eq, decide_eq_false_iff_not, beq_iff_eq, beq_eq_false_iff_ne, bne_iff_ne, bne_eq_false_iff_eq, Bool.not_eq_true', Bool.not_eq_false', Bool.not_eq_true, Bool.not_eq_false] at hc) <;> first | (first | (exact absurd rfl hc) | (exfalso; omega) | (exact absurd (hc.symm.trans (by assumption : _ = false)) (by decide)) | (exact absurd (hc.symm.trans (by assumption : _ = true)) (by decide))) | skip)) | refine drawK.nn ?_ | refine loopK.x ?_)
      | ((refine JC.drawO [(1,0),(0,1),(0,2),(1,3),(1,4),(1,5),(0,6),(0,7),(0,8),(0,9),(0,10)] (by kernel_rfl) (by kernel_rfl) ?_))
      | fail
    all_goals first | (exfalso; omega) | skip
    all_goals (refine ret1f rfl rfl rfl (fun w1 hw => ⟨_, _, rfl, hw.drop, s, y, rfl, rfl, adz _ hite.lt, hite, hin⟩))
  | none =>
    have ha2 : 2 ≤ x.a := by omega
    have hpa := hwf.pl _ ha2 hx1
    have hm3 : mnP n s.ns x 3 = min (min (min n (nd s.ns x.a).p) (nd s.ns x.b).p) (nd s.ns x.c).p := rfl
    have hp1 : mnP n s.ns x 3 < n := by rw [hm3]; omega
    have hp2 : k ≤ mnP n s.ns x 3 := by have := hf.1; have := hf.2.1; have := hf.2.2; have := hwf.ple hx1; rw [hm3]; omega
    have hpf : x.from s.ns (mnP n s.ns x 3) := ⟨by rw [hm3]; omega, by rw [hm3]; omega, by rw [hm3]; omega⟩
    have xl := fun b => partT_lt hwf b hx hp1
    have xf := fun b => partT_from hwf b hx hp1 hpf
    have rc2 := r2
    unfold fnC at rc2
    have ow := so.ow
    have hsl := ow.sl
    have hGp : InL n Φ (mnP n s.ns x 3) (iteF n s.ns x) := by
      have := InL.skip lv (mnP n s.ns x 3 - k) k (by omega) (fun j hj b α => iteF_dep hwf hx hpf (by omega) b α) hG
      rwa [show k + (mnP n s.ns x 3 - k) = mnP n s.ns x 3 by omega] at this
    have hGb : ∀ b, InL n Φ (mnP n s.ns x 3 + 1) (iteF n s.ns (partT s.ns x (mnP n s.ns x 3) b)) := fun b => by
      rw [iteF_part hwf b hx hp1 hpf]; exact InL.step lv hp1 b hGp
    have hG0 : InL n Φ 0 (iteF n s.ns x) := by
      rcases hG with g | ⟨j, _, g2, g3⟩
      · exact .inl g
      · exact .inr ⟨j, Nat.zero_le _, g2, g3⟩
    have cPart : ∀ w1 L1, H w0 R L1 w1 → Rd R L1 b (stO K s.an s.ns.length s.cn) → RdH R L1 s.hN → ∀ a hi, a < s.ns.length → Calls Try.prog 81 #[.pointer (some ⟨b, 0, none⟩), .int .i64 (a : Int), .int .i64 ((mnP n s.ns x 3 : Nat) : Int), .bool hi] w1 fun e w' => e = .returned (.int .i64 (partN s.ns a (mnP n s.ns x 3) hi : Int)) ∧ Below w1.heap.size w1 w' :=
      fun w1 L1 h1 rb rn a hi ha => part_any K b s.an s.cn s.ns ((b, stO K s.an s.ns.length s.cn) :: s.hN) (hsl.sub fun y hy => List.mem_cons_of_mem _ hy) List.mem_cons_self a _ hi ha w1 (holds2 (h1.rd rb) (h1.rdH rn))
    unfold sF at hw
    simp only [List.cons_append, List.nil_append] at hw
    rcases Nat.decEq x.b 1 with hb1 | hb1
    all_goals
      refine calls_in Try.func116 Try.ntmps116 rfl rfl (hw) ?_
      unfold stO ekT
      repeat' first
        | (refine J.isJ ?_; first | (first | (refine J.o 6 ?_; refine J.bx (fun b3 => ?_)) | (refine J.o 4 ?_; refine J.lR hΓ ?_ (hr := rc1.tl.tl.tl.tl.tl)) | (refine J.o 9 ?_; refine J.lk (a := x) kT ekT_inj mm (by first | exact RdH.hd | exact RdH.hd.tl | exact RdH.hd.tl.tl | exact RdH.hd.tl.tl.tl | exact RdH.hd.tl.tl.tl.tl | exact RdH.hd.tl.tl.tl.tl.tl | exact RdH.hd.tl.tl.tl.tl.tl.tl | exact RdH.hd.tl.tl.tl.tl.tl.tl.tl | exact RdH.old (fun _ hh => hh) | assumption) hkey hΓ ?_; rw [hget])) | (first | (refine J.o 0 ?_; refine J.ev' hΓ ?_) | refine J.nil ?_ | refine J.kd ?_ | (refine J.o 4 ?_; first | refine J.lT default hΓ ?_ | refine J.lR hΓ ?_) | (refine J.o 3 ?_; first | refine J.iA hΓ ?_ | refine J.iJ hΓ ?_ | refine J.fP hΓ ?_ | refine J.ev' hΓ ?_) | (refine J.o 1 ?_; first | refine J.ad ?_) | (refine J.o 5 ?_; first | refine J.t0 hΓ ?_ | refine J.t1 hΓ ?_) | (refine J.o 6 ?_; refine J.bx (fun _ => ?_)) | (refine J.o 7 ?_; refine J.al hΓ (fun _ => ?_)) | (refine J.o 10 ?_; refine J.ev' hΓ ?_) | (refine J.o 11 ?_; refine J.ev' hΓ ?_)) | ((fail_if_success refine J.wt ?_); refine J.gc rfl rfl (fun hc => ?_) (fun hc => ?_) <;> ((try simp only [decide_eq_true_eq, decide_eq_false_iff_not, beq_iff_eq, beq_eq_false_iff_ne, bne_iff_ne, bne_eq_false_iff_eq, Bool.not_eq_true', Bool.not_eq_false', Bool.not_eq_true, Bool.not_eq_false] at hc) <;> first | (first | (exact absurd rfl hc) | (exfalso; omega) | (exact absurd (hc.symm.trans (by assumption : _ = false)) (by decide)) | (exact absurd (hc.symm.trans (by assumption : _ = true)) (by decide))) | skip)))
        | (first | refine JC.seq ?_ | refine JC.region ?_ | refine JC.block ?_ | refine JC.ret ?_ | refine JC.exit ?_ | refine JC.skip ?_ | refine thenK.nn ?_ | refine thenK.r ?_ | refine thenK.x ?_ | refine blockK.nn ?_ | refine blockK.r ?_ | refine blockK.hit rfl ?_ | refine JC.condT rfl ?_ | refine JC.condF rfl ?_ | (refine JC.cond rfl (fun hc => ?_) (fun hc => ?_) <;> ((try simp only [decide_eq_true_eq, decide_eq_false_iff_not, beq_iff_eq, beq_eq_false_iff_ne, bne_iff_ne, bne_eq_false_iff_eq, Bool.not_eq_true', Bool.not_eq_false', Bool.not_eq_true, Bool.not_eq_false] at hc) <;> first | (first | (exact absurd rfl hc) | (exfalso; omega) | (exact absurd (hc.symm.trans (by assumption : _ = false)) (by decide)) | (exact absurd (hc.symm.trans (by assumption : _ = true)) (by decide))) | skip)) | refine drawK.nn ?_ | refine loopK.x ?_)
        | ((refine JC.drawO [(1,0),(0,1),(0,2),(1,3),(1,4),(1,5),(0,6),(0,7),(0,8),(0,9),(0,10)] (by kernel_rfl) (by kernel_rfl) ?_))
        | fail
      all_goals first | (exfalso; omega) | skip
      refine JC.loop (fun i => i == 7 || i == 9 || Nat.ble 63 i) (fun m g L' => ∃ q, g 63 = .int .i64 ((q : Nat) : Int) ∧ q + m = 3 ∧ g 7 = .int .i64 ((mnP n s.ns x q : Nat) : Int) ∧ L' = [(b3, Obj.cells ⟨[.int .i64 (x.a : Int), .int .i64 (x.b : Int), .int .i64 (x.c : Int)]⟩ 159 (0, 0))] :: [(b, stO K s.an s.ns.length s.cn)] :: s.hN :: s.hU :: s.hM :: L) 3 ⟨0, rfl, rfl, congrArg (fun z : Nat => Value.int .i64 (z : Int)) hno, rfl⟩ ?_
      rintro m1 g1 L' ⟨q, e63, hq, e7, rfl⟩
      refine JC.pin 63 e63 ?_
      refine JC.pin 7 e7 ?_
      unfold stO
      rcases (by omega : q = 3 ∨ q = 0 ∨ q = 1 ∨ q = 2) with rfl | rfl | rfl | rfl
      ·
        repeat' first
          | (refine J.isJ ?_; first | (first | (refine J.o 7 ?_; first | refine J.al hΓ (fun b10 => ?_))) | (first | (refine J.o 0 ?_; refine J.ev' hΓ ?_) | refine J.nil ?_ | refine J.kd ?_ | (refine J.o 4 ?_; first | refine J.lT default hΓ ?_ | refine J.lR hΓ ?_) | (refine J.o 3 ?_; first | refine J.iA hΓ ?_ | refine J.iJ hΓ ?_ | refine J.fP hΓ ?_ | refine J.ev' hΓ ?_) | (refine J.o 1 ?_; first | refine J.ad ?_) | (refine J.o 5 ?_; first | refine J.t0 hΓ ?_ | refine J.t1 hΓ ?_) | (refine J.o 6 ?_; refine J.bx (fun _ => ?_)) | (refine J.o 7 ?_; refine J.al hΓ (fun _ => ?_)) | (refine J.o 10 ?_; refine J.ev' hΓ ?_) | (refine J.o 11 ?_; refine J.ev' hΓ ?_)) | ((fail_if_success refine J.wt ?_); refine J.gc rfl rfl (fun hc => ?_) (fun hc => ?_) <;> ((try simp only [decide_eq_true_eq, decide_eq_false_iff_not, beq_iff_eq, beq_eq_false_iff_ne, bne_iff_ne, bne_eq_false_iff_eq, Bool.not_eq_true', Bool.not_eq_false', Bool.not_eq_true, Bool.not_eq_false] at hc) <;> first | (first | (exact absurd rfl hc) | (exfalso; omega) | (exact absurd (hc.symm.trans (by assumption : _ = false)) (by decide)) | (exact absurd (hc.symm.trans (by assumption : _ = true)) (by decide))) | skip)))
          | (first | refine JC.seq ?_ | refine JC.region ?_ | refine JC.block ?_ | refine JC.ret ?_ | refine JC.exit ?_ | refine JC.skip ?_ | refine thenK.nn ?_ | refine thenK.r ?_ | refine thenK.x ?_ | refine blockK.nn ?_ | refine blockK.r ?_ | refine blockK.hit rfl ?_ | refine JC.condT rfl ?_ | refine JC.condF rfl ?_ | (refine JC.cond rfl (fun hc => ?_) (fun hc => ?_) <;> ((try simp only [decide_eq_true_eq, decide_eq_false_iff_not, beq_iff_eq, beq_eq_false_iff_ne, bne_iff_ne, bne_eq_false_iff_eq, Bool.not_eq_true', Bool.not_eq_false', Bool.not_eq_true, Bool.not_eq_false] at hc) <;> first | (first | (exact absurd rfl hc) | (exfalso; omega) | (exact absurd (hc.symm.trans (by assumption : _ = false)) (by decide)) | (exact absurd (hc.symm.trans (by assumption : _ = true)) (by decide))) | skip)) | refine drawK.nn ?_ | refine loopK.x ?_)
          | (fail)
          | fail
        all_goals first | (exfalso; omega) | skip
        rename_i bl
        refine JC.loop (fun i => i == 12 || i == 13 || Nat.ble 78 i) (fun m g L' => ∃ q, g 78 = .int .i64 ((q : Nat) : Int) ∧ q + m = 3 ∧ L' = [(b10, Obj.cells ⟨pcs s.ns x (mnP n s.ns x 3) true q⟩ 159 (0, 0))] :: [(bl, Obj.cells ⟨pcs s.ns x (mnP n s.ns x 3) false q⟩ 159 (0, 0))] :: [(b3, Obj.cells ⟨[.int .i64 (x.a : Int), .int .i64 (x.b : Int), .int .i64 (x.c : Int)]⟩ 159 (0, 0))] :: [(b, stO K s.an s.ns.length s.cn)] :: s.hN :: s.hU :: s.hM :: L) 3 ⟨0, rfl, rfl, rfl⟩ ?_
        rintro m2 g2 L' ⟨q, e78, hq2, rfl⟩
        refine JC.pin 78 e78 ?_
        unfold stO
        rcases (by omega : q = 3 ∨ q = 0 ∨ q = 1 ∨ q = 2) with rfl | rfl | rfl | rfl
        all_goals simp only [pcs]
        ·
          repeat' first
            | (refine J.isJ ?_; first | (first | (refine J.o 4 ?_; first | refine J.lR hΓ ?_ (hr := rc1.tl.tl.tl.tl.tl.tl.tl) | refine J.lR hΓ ?_ (hr := rc2.tl.tl.tl.tl.tl.tl.tl))) | (first | (refine J.o 0 ?_; refine J.ev' hΓ ?_) | refine J.nil ?_ | refine J.kd ?_ | (refine J.o 4 ?_; first | refine J.lT default hΓ ?_ | refine J.lR hΓ ?_) | (refine J.o 3 ?_; first | refine J.iA hΓ ?_ | refine J.iJ hΓ ?_ | refine J.fP hΓ ?_ | refine J.ev' hΓ ?_) | (refine J.o 1 ?_; first | refine J.ad ?_) | (refine J.o 5 ?_; first | refine J.t0 hΓ ?_ | refine J.t1 hΓ ?_) | (refine J.o 6 ?_; refine J.bx (fun _ => ?_)) | (refine J.o 7 ?_; refine J.al hΓ (fun _ => ?_)) | (refine J.o 10 ?_; refine J.ev' hΓ ?_) | (refine J.o 11 ?_; refine J.ev' hΓ ?_)) | ((fail_if_success refine J.wt ?_); refine J.gc rfl rfl (fun hc => ?_) (fun hc => ?_) <;> ((try simp only [decide_eq_true_eq, decide_eq_false_iff_not, beq_iff_eq, beq_eq_false_iff_ne, bne_iff_ne, bne_eq_false_iff_eq, Bool.not_eq_true', Bool.not_eq_false', Bool.not_eq_true, Bool.not_eq_false] at hc) <;> first | (first | (exact absurd rfl hc) | (exfalso; omega) | (exact absurd (hc.symm.trans (by assumption : _ = false)) (by decide)) | (exact absurd (hc.symm.trans (by assumption : _ = true)) (by decide))) | skip)))
            | (first | refine JC.seq ?_ | refine JC.region ?_ | refine JC.block ?_ | refine JC.ret ?_ | refine JC.exit ?_ | refine JC.skip ?_ | refine thenK.nn ?_ | refine thenK.r ?_ | refine thenK.x ?_ | refine blockK.nn ?_ | refine blockK.r ?_ | refine blockK.hit rfl ?_ | refine JC.condT rfl ?_ | refine JC.condF rfl ?_ | (refine JC.cond rfl (fun hc => ?_) (fun hc => ?_) <;> ((try simp only [decide_eq_true_eq, decide_eq_false_iff_not, beq_iff_eq, beq_eq_false_iff_ne, bne_iff_ne, bne_eq_false_iff_eq, Bool.not_eq_true', Bool.not_eq_false', Bool.not_eq_true, Bool.not_eq_false] at hc) <;> first | (first | (exact absurd rfl hc) | (exfalso; omega) | (exact absurd (hc.symm.trans (by assumption : _ = false)) (by decide)) | (exact absurd (hc.symm.trans (by assumption : _ = true)) (by decide))) | skip)) | refine drawK.nn ?_ | refine loopK.x ?_)
            | ((first | refine JC.drawO [(1,0),(0,1),(0,2),(1,3),(1,4),(2,5),(0,6),(2,7),(0,8)] (by decide +kernel) (by decide +kernel) ?_ | refine JC.drawO [(1,0),(0,1),(0,2),(1,3),(1,4),(0,5),(2,6)] (by decide +kernel) (by decide +kernel) ?_))
            | fail
          refine J.isJ ?_
          refine J.o 9 ?_
          refine J.callvx eChC rfl rfl rfl (fun w hw => ih (n - (mnP n s.ns x 3 + 1)) (by omega) _ s (partT s.ns x (mnP n s.ns x 3) false) rfl so (xl _) (xf _) hs0 hin (hGb _) (H.sel (l := [_, _, _, _, _, _, _]) (M := L) hw [3, 4, 5, 6, 0, 1, 2]) r1.tl.tl.tl r2.tl.tl.tl) ?_
          rintro _ _ ⟨s1, y1, rfl, rfl, ad1, it1, in1⟩
          have hG1 := iteF_ext hwf ad1.ext (xl true)
          have hs1 := ad1.ext.le
          unfold sF stO
          simp only [List.cons_append, List.nil_append]
          repeat' first
            | (refine J.isJ ?_; first | (fail) | (first | (refine J.o 0 ?_; refine J.ev' hΓ ?_) | refine J.nil ?_ | refine J.kd ?_ | (refine J.o 4 ?_; first | refine J.lT default hΓ ?_ | refine J.lR hΓ ?_) | (refine J.o 3 ?_; first | refine J.iA hΓ ?_ | refine J.iJ hΓ ?_ | refine J.fP hΓ ?_ | refine J.ev' hΓ ?_) | (refine J.o 1 ?_; first | refine J.ad ?_) | (refine J.o 5 ?_; first | refine J.t0 hΓ ?_ | refine J.t1 hΓ ?_) | (refine J.o 6 ?_; refine J.bx (fun _ => ?_)) | (refine J.o 7 ?_; refine J.al hΓ (fun _ => ?_)) | (refine J.o 10 ?_; refine J.ev' hΓ ?_) | (refine J.o 11 ?_; refine J.ev' hΓ ?_)) | ((fail_if_success refine J.wt ?_); refine J.gc rfl rfl (fun hc => ?_) (fun hc => ?_) <;> ((try simp only [decide_eq_true_eq, decide_eq_false_iff_not, beq_iff_eq, beq_eq_false_iff_ne, bne_iff_ne, bne_eq_false_iff_eq, Bool.not_eq_true', Bool.not_eq_false', Bool.not_eq_true, Bool.not_eq_false] at hc) <;> first | (first | (exact absurd rfl hc) | (exfalso; omega) | (exact absurd (hc.symm.trans (by assumption : _ = false)) (by decide)) | (exact absurd (hc.symm.trans (by assumption : _ = true)) (by decide))) | skip)))
            | (first | refine JC.seq ?_ | refine JC.region ?_ | refine JC.block ?_ | refine JC.ret ?_ | refine JC.exit ?_ | refine JC.skip ?_ | refine thenK.nn ?_ | refine thenK.r ?_ | refine thenK.x ?_ | refine blockK.nn ?_ | refine blockK.r ?_ | refine blockK.hit rfl ?_ | refine JC.condT rfl ?_ | refine JC.condF rfl ?_ | (refine JC.cond rfl (fun hc => ?_) (fun hc => ?_) <;> ((try simp only [decide_eq_true_eq, decide_eq_false_iff_not, beq_iff_eq, beq_eq_false_iff_ne, bne_iff_ne, bne_eq_false_iff_eq, Bool.not_eq_true', Bool.not_eq_false', Bool.not_eq_true, Bool.not_eq_false] at hc) <;> first | (first | (exact absurd rfl hc) | (exfalso; omega) | (exact absurd (hc.symm.trans (by assumption : _ = false)) (by decide)) | (exact absurd (hc.symm.trans (by assumption : _ = true)) (by decide))) | skip)) | refine drawK.nn ?_ | refine loopK.x ?_)
            | (fail)
            | fail
          refine JC.drawD ([(b10, Obj.cells ⟨[.int .i64 (partN s.ns x.a (mnP n s.ns x 3) true : Int), .int .i64 (partN s.ns x.b (mnP n s.ns x 3) true : Int), .int .i64 (partN s.ns x.c (mnP n s.ns x 3) true : Int)]⟩ 159 (0, 0))] :: L) [(4, 0), (0, 1), (0, 2), (4, 3), (4, 4), (3, 5), (0, 6), (2, 7), (0, 8)] (by kernel_rfl) (by kernel_rfl) ?_
          refine JD.ld hΓ (fun w hw => H.sel (l := [_, _, _, _, _, _, _]) (M := L) hw [4]) rc1.tl ?_
          refine JD.ev hΓ ?_
          refine JD.ev hΓ ?_
          refine JD.ld hΓ (fun w hw => H.sel (l := [_, _, _, _, _, _, _]) (M := L) hw [4]) rc2.tl ?_
          refine JD.ld hΓ (fun w hw => H.sel (l := [_, _, _, _, _, _, _]) (M := L) hw [4]) Rd.hd ?_
          refine JD.callvd eChC rfl rfl rfl (fun w hw => ih (n - (mnP n s.ns x 3 + 1)) (by omega) _ s1 (partT s.ns x (mnP n s.ns x 3) true) rfl ad1.ok ((xl _).ext ad1.ext) ((xf _).ext ad1.ext (xl _)) (by omega) in1 (by rw [hG1]; exact hGb _) hw r1.tl.tl.tl r2.tl.tl.tl) ?_
          rintro _ _ ⟨s2, y2, rfl, rfl, ad2, it2, in2⟩
          have hl2 := in2.len lv ad2.ok.wf h20
          have e12 := ad1.ext.trans ad2.ext
          have k1 := it1.from ad1.ok.wf ((xl _).ext ad1.ext) ((xf _).ext ad1.ext (xl _))
          rw [← ad2.ext.at_ y1 it1.lt] at k1
          have k2 := it2.from ad2.ok.wf ((xl _).ext e12) ((xf _).ext e12 (xl _))
          have y1l : y1 < s2.ns.length := Nat.lt_of_lt_of_le it1.lt ad2.ext.le
          refine ⟨fun w hw => H.sel (l := [_, _, _, _, _, _, _]) (M := L) hw [4], ?_⟩
          refine JD.bd hΓ ?_
          refine JD.callvx eAdd rfl rfl rfl (fun w hw => add_new ad2.ok ⟨mnP n s.ns x 3, y1, y2⟩ hp1 y1l it2.lt k1 k2 (by omega) hw) ?_
          rintro _ _ ⟨s3, y3, rfl, rfl, ad3, fn3, hnw⟩
          have l3 := ad3.le
          have e23 := ad2.ext.trans ad3.ext
          have e13 := e12.trans ad3.ext
          have so3 := ad3.ok
          have hite : Ite n s3.ns x y3 := Ite.join so3.wf (hx.ext e13) hp1 (by rw [partT_ext e13 _ hx]; exact it1.ext ad1.ok.wf e23 ((xl _).ext ad1.ext)) (by rw [partT_ext e13 _ hx]; exact it2.ext ad2.ok.wf ad3.ext ((xl _).ext e12)) ad3.lt fn3
          have in3 : InG n Φ s3.ns s0 := in2.ext ad2.ok.wf ad3.ext (hnw.imp id fun g => ⟨g, l3⟩) (by
            have e : fn n s3.ns y3 = iteF n s.ns x := by rw [← iteF_ext hwf e13 hx]; exact funext fun α => hite.eq α
            rw [e]; exact hG0)
          have sm3 := so3.sm
          have mm3 := so3.mm
          refine JD.ev hΓ ?_
          refine JD.nil ?_
          unfold sF stO
          simp only [List.cons_append, List.nil_append]
          repeat' first
            | (refine J.isJ ?_; first | (first | (refine J.o 4 ?_; first | refine J.lR hΓ ?_ (hr := rc1.tl.tl.tl.tl.tl.tl.tl) | refine J.lR hΓ ?_ (hr := Rd.hd.tl.tl.tl.tl.tl.tl)) | (refine J.o 9 ?_; refine J.perm br3 ?_; refine J.mup (a := x) (ev := evI) y3 kT ekT_inj mm3 hkey hΓ (fun h4 mt4 => ?_))) | (first | (refine J.o 0 ?_; refine J.ev' hΓ ?_) | refine J.nil ?_ | refine J.kd ?_ | (refine J.o 4 ?_; first | refine J.lT default hΓ ?_ | refine J.lR hΓ ?_) | (refine J.o 3 ?_; first | refine J.iA hΓ ?_ | refine J.iJ hΓ ?_ | refine J.fP hΓ ?_ | refine J.ev' hΓ ?_) | (refine J.o 1 ?_; first | refine J.ad ?_) | (refine J.o 5 ?_; first | refine J.t0 hΓ ?_ | refine J.t1 hΓ ?_) | (refine J.o 6 ?_; refine J.bx (fun _ => ?_)) | (refine J.o 7 ?_; refine J.al hΓ (fun _ => ?_)) | (refine J.o 10 ?_; refine J.ev' hΓ ?_) | (refine J.o 11 ?_; refine J.ev' hΓ ?_)) | ((fail_if_success refine J.wt ?_); refine J.gc rfl rfl (fun hc => ?_) (fun hc => ?_) <;> ((try simp only [decide_eq_true_eq, decide_eq_false_iff_not, beq_iff_eq, beq_eq_false_iff_ne, bne_iff_ne, bne_eq_false_iff_eq, Bool.not_eq_true', Bool.not_eq_false', Bool.not_eq_true, Bool.not_eq_false] at hc) <;> first | (first | (exact absurd rfl hc) | (exfalso; omega) | (exact absurd (hc.symm.trans (by assumption : _ = false)) (by decide)) | (exact absurd (hc.symm.trans (by assumption : _ = true)) (by decide))) | skip)))
            | (first | refine JC.seq ?_ | refine JC.region ?_ | refine JC.block ?_ | refine JC.ret ?_ | refine JC.exit ?_ | refine JC.skip ?_ | refine thenK.nn ?_ | refine thenK.r ?_ | refine thenK.x ?_ | refine blockK.nn ?_ | refine blockK.r ?_ | refine blockK.hit rfl ?_ | refine JC.condT rfl ?_ | refine JC.condF rfl ?_ | (refine JC.cond rfl (fun hc => ?_) (fun hc => ?_) <;> ((try simp only [decide_eq_true_eq, decide_eq_false_iff_not, beq_iff_eq, beq_eq_false_iff_ne, bne_iff_ne, bne_eq_false_iff_eq, Bool.not_eq_true', Bool.not_eq_false', Bool.not_eq_true, Bool.not_eq_false] at hc) <;> first | (first | (exact absurd rfl hc) | (exfalso; omega) | (exact absurd (hc.symm.trans (by assumption : _ = false)) (by decide)) | (exact absurd (hc.symm.trans (by assumption : _ = true)) (by decide))) | skip)) | refine drawK.nn ?_ | refine loopK.x ?_)
            | ((refine JC.drawO [(1,0),(0,1),(0,2),(1,3),(1,4),(0,5),(2,6)] (by decide +kernel) (by decide +kernel) ?_))
            | fail
          all_goals first | (exfalso; omega) | skip
          refine ret1f rfl rfl rfl (fun w1 hw => ⟨_, _, rfl, H.sel (l := [_, _, _, _, _, _, _]) (M := L) hw [1, 2, 3, 0], ⟨s3.an, s3.cn, s3.ns, s3.hN, s3.u, s3.hU, mput s3.m x y3, h4⟩, y3, rfl, rfl, ⟨⟨so3.n8, so3.no, so3.wf, so3.sm, so3.ow, so3.um, so3.uk, mt4, so3.mo.put (hx.ext e13) hite⟩, e13, by show s3.ns.length ≤ _; omega, ad3.lt⟩, hite, in3⟩)
        ·
          repeat' first
            | (refine J.isJ ?_; first | (first | (refine J.o 12 ?_; refine J.xI hΓ ?_) | (refine J.o 4 ?_; first | refine J.lR hΓ ?_ (hr := rc1.tl.tl.tl.tl.tl.tl.tl)) | (refine J.fc 81 ?_; refine J.call0 ePart rfl rfl (fun w hw => cPart w _ hw Rd.hd.tl.tl.tl RdH.hd.tl.tl.tl.tl x.a false hx1) ?_) | (refine J.fc 81 ?_; refine J.call0 ePart rfl rfl (fun w hw => cPart w _ hw Rd.hd.tl.tl.tl RdH.hd.tl.tl.tl.tl x.a true hx1) ?_)) | (first | (refine J.o 0 ?_; refine J.ev' hΓ ?_) | refine J.nil ?_ | refine J.kd ?_ | (refine J.o 4 ?_; first | refine J.lT default hΓ ?_ | refine J.lR hΓ ?_) | (refine J.o 3 ?_; first | refine J.iA hΓ ?_ | refine J.iJ hΓ ?_ | refine J.fP hΓ ?_ | refine J.ev' hΓ ?_) | (refine J.o 1 ?_; first | refine J.ad ?_) | (refine J.o 5 ?_; first | refine J.t0 hΓ ?_ | refine J.t1 hΓ ?_) | (refine J.o 6 ?_; refine J.bx (fun _ => ?_)) | (refine J.o 7 ?_; refine J.al hΓ (fun _ => ?_)) | (refine J.o 10 ?_; refine J.ev' hΓ ?_) | (refine J.o 11 ?_; refine J.ev' hΓ ?_)) | ((fail_if_success refine J.wt ?_); refine J.gc rfl rfl (fun hc => ?_) (fun hc => ?_) <;> ((try simp only [decide_eq_true_eq, decide_eq_false_iff_not, beq_iff_eq, beq_eq_false_iff_ne, bne_iff_ne, bne_eq_false_iff_eq, Bool.not_eq_true', Bool.not_eq_false', Bool.not_eq_true, Bool.not_eq_false] at hc) <;> first | (first | (exact absurd rfl hc) | (exfalso; omega) | (exact absurd (hc.symm.trans (by assumption : _ = false)) (by decide)) | (exact absurd (hc.symm.trans (by assumption : _ = true)) (by decide))) | skip)))
            | (first | refine JC.seq ?_ | refine JC.region ?_ | refine JC.block ?_ | refine JC.ret ?_ | refine JC.exit ?_ | refine JC.skip ?_ | refine thenK.nn ?_ | refine thenK.r ?_ | refine thenK.x ?_ | refine blockK.nn ?_ | refine blockK.r ?_ | refine blockK.hit rfl ?_ | refine JC.condT rfl ?_ | refine JC.condF rfl ?_ | (refine JC.cond rfl (fun hc => ?_) (fun hc => ?_) <;> ((try simp only [decide_eq_true_eq, decide_eq_false_iff_not, beq_iff_eq, beq_eq_false_iff_ne, bne_iff_ne, bne_eq_false_iff_eq, Bool.not_eq_true', Bool.not_eq_false', Bool.not_eq_true, Bool.not_eq_false] at hc) <;> first | (first | (exact absurd rfl hc) | (exfalso; omega) | (exact absurd (hc.symm.trans (by assumption : _ = false)) (by decide)) | (exact absurd (hc.symm.trans (by assumption : _ = true)) (by decide))) | skip)) | refine drawK.nn ?_ | refine loopK.x ?_)
            | ((refine JC.drawO [(0,0),(0,1),(1,2),(0,3),(0,4),(1,6),(0,7),(0,8),(1,5),(0,10),(1,9),(2,11),(0,12),(2,13)] (by kernel_rfl) (by kernel_rfl) ?_))
            | fail
          all_goals first | (exfalso; omega) | skip
          refine loopK.nn (m2 - 1) (by omega) (by repeat (first | refine Ag.upd rfl ?_ | exact Ag.hv)) ⟨1, rfl, by omega, rfl⟩
        ·
          repeat' first
            | (refine J.isJ ?_; first | (first | (refine J.o 12 ?_; refine J.xI hΓ ?_) | (refine J.o 4 ?_; first | refine J.lR hΓ ?_ (hr := rc1.tl.tl.tl.tl.tl.tl.tl)) | (refine J.fc 81 ?_; refine J.call0 ePart rfl rfl (fun w hw => cPart w _ hw Rd.hd.tl.tl.tl RdH.hd.tl.tl.tl.tl x.b false hx2) ?_) | (refine J.fc 81 ?_; refine J.call0 ePart rfl rfl (fun w hw => cPart w _ hw Rd.hd.tl.tl.tl RdH.hd.tl.tl.tl.tl x.b true hx2) ?_)) | (first | (refine J.o 0 ?_; refine J.ev' hΓ ?_) | refine J.nil ?_ | refine J.kd ?_ | (refine J.o 4 ?_; first | refine J.lT default hΓ ?_ | refine J.lR hΓ ?_) | (refine J.o 3 ?_; first | refine J.iA hΓ ?_ | refine J.iJ hΓ ?_ | refine J.fP hΓ ?_ | refine J.ev' hΓ ?_) | (refine J.o 1 ?_; first | refine J.ad ?_) | (refine J.o 5 ?_; first | refine J.t0 hΓ ?_ | refine J.t1 hΓ ?_) | (refine J.o 6 ?_; refine J.bx (fun _ => ?_)) | (refine J.o 7 ?_; refine J.al hΓ (fun _ => ?_)) | (refine J.o 10 ?_; refine J.ev' hΓ ?_) | (refine J.o 11 ?_; refine J.ev' hΓ ?_)) | ((fail_if_success refine J.wt ?_); refine J.gc rfl rfl (fun hc => ?_) (fun hc => ?_) <;> ((try simp only [decide_eq_true_eq, decide_eq_false_iff_not, beq_iff_eq, beq_eq_false_iff_ne, bne_iff_ne, bne_eq_false_iff_eq, Bool.not_eq_true', Bool.not_eq_false', Bool.not_eq_true, Bool.not_eq_false] at hc) <;> first | (first | (exact absurd rfl hc) | (exfalso; omega) | (exact absurd (hc.symm.trans (by assumption : _ = false)) (by decide)) | (exact absurd (hc.symm.trans (by assumption : _ = true)) (by decide))) | skip)))
            | (first | refine JC.seq ?_ | refine JC.region ?_ | refine JC.block ?_ | refine JC.ret ?_ | refine JC.exit ?_ | refine JC.skip ?_ | refine thenK.nn ?_ | refine thenK.r ?_ | refine thenK.x ?_ | refine blockK.nn ?_ | refine blockK.r ?_ | refine blockK.hit rfl ?_ | refine JC.condT rfl ?_ | refine JC.condF rfl ?_ | (refine JC.cond rfl (fun hc => ?_) (fun hc => ?_) <;> ((try simp only [decide_eq_true_eq, decide_eq_false_iff_not, beq_iff_eq, beq_eq_false_iff_ne, bne_iff_ne, bne_eq_false_iff_eq, Bool.not_eq_true', Bool.not_eq_false', Bool.not_eq_true, Bool.not_eq_false] at hc) <;> first | (first | (exact absurd rfl hc) | (exfalso; omega) | (exact absurd (hc.symm.trans (by assumption : _ = false)) (by decide)) | (exact absurd (hc.symm.trans (by assumption : _ = true)) (by decide))) | skip)) | refine drawK.nn ?_ | refine loopK.x ?_)
            | ((refine JC.drawO [(0,0),(0,1),(1,2),(0,3),(0,4),(1,6),(0,7),(0,8),(1,5),(0,10),(1,9),(2,11),(0,12),(2,13)] (by kernel_rfl) (by kernel_rfl) ?_))
            | fail
          all_goals first | (exfalso; omega) | skip
          refine loopK.nn (m2 - 1) (by omega) (by repeat (first | refine Ag.upd rfl ?_ | exact Ag.hv)) ⟨2, rfl, by omega, rfl⟩
        ·
          repeat' first
            | (refine J.isJ ?_; first | (first | (refine J.o 12 ?_; refine J.xI hΓ ?_) | (refine J.o 4 ?_; first | refine J.lR hΓ ?_ (hr := rc1.tl.tl.tl.tl.tl.tl.tl)) | (refine J.fc 81 ?_; refine J.call0 ePart rfl rfl (fun w hw => cPart w _ hw Rd.hd.tl.tl.tl RdH.hd.tl.tl.tl.tl x.c false hx3) ?_) | (refine J.fc 81 ?_; refine J.call0 ePart rfl rfl (fun w hw => cPart w _ hw Rd.hd.tl.tl.tl RdH.hd.tl.tl.tl.tl x.c true hx3) ?_)) | (first | (refine J.o 0 ?_; refine J.ev' hΓ ?_) | refine J.nil ?_ | refine J.kd ?_ | (refine J.o 4 ?_; first | refine J.lT default hΓ ?_ | refine J.lR hΓ ?_) | (refine J.o 3 ?_; first | refine J.iA hΓ ?_ | refine J.iJ hΓ ?_ | refine J.fP hΓ ?_ | refine J.ev' hΓ ?_) | (refine J.o 1 ?_; first | refine J.ad ?_) | (refine J.o 5 ?_; first | refine J.t0 hΓ ?_ | refine J.t1 hΓ ?_) | (refine J.o 6 ?_; refine J.bx (fun _ => ?_)) | (refine J.o 7 ?_; refine J.al hΓ (fun _ => ?_)) | (refine J.o 10 ?_; refine J.ev' hΓ ?_) | (refine J.o 11 ?_; refine J.ev' hΓ ?_)) | ((fail_if_success refine J.wt ?_); refine J.gc rfl rfl (fun hc => ?_) (fun hc => ?_) <;> ((try simp only [decide_eq_true_eq, decide_eq_false_iff_not, beq_iff_eq, beq_eq_false_iff_ne, bne_iff_ne, bne_eq_false_iff_eq, Bool.not_eq_true', Bool.not_eq_false', Bool.not_eq_true, Bool.not_eq_false] at hc) <;> first | (first | (exact absurd rfl hc) | (exfalso; omega) | (exact absurd (hc.symm.trans (by assumption : _ = false)) (by decide)) | (exact absurd (hc.symm.trans (by assumption : _ = true)) (by decide))) | skip)))
            | (first | refine JC.seq ?_ | refine JC.region ?_ | refine JC.block ?_ | refine JC.ret ?_ | refine JC.exit ?_ | refine JC.skip ?_ | refine thenK.nn ?_ | refine thenK.r ?_ | refine thenK.x ?_ | refine blockK.nn ?_ | refine blockK.r ?_ | refine blockK.hit rfl ?_ | refine JC.condT rfl ?_ | refine JC.condF rfl ?_ | (refine JC.cond rfl (fun hc => ?_) (fun hc => ?_) <;> ((try simp only [decide_eq_true_eq, decide_eq_false_iff_not, beq_iff_eq, beq_eq_false_iff_ne, bne_iff_ne, bne_eq_false_iff_eq, Bool.not_eq_true', Bool.not_eq_false', Bool.not_eq_true, Bool.not_eq_false] at hc) <;> first | (first | (exact absurd rfl hc) | (exfalso; omega) | (exact absurd (hc.symm.trans (by assumption : _ = false)) (by decide)) | (exact absurd (hc.symm.trans (by assumption : _ = true)) (by decide))) | skip)) | refine drawK.nn ?_ | refine loopK.x ?_)
            | ((refine JC.drawO [(0,0),(0,1),(1,2),(0,3),(0,4),(1,6),(0,7),(0,8),(1,5),(0,10),(1,9),(2,11),(0,12),(2,13)] (by kernel_rfl) (by kernel_rfl) ?_))
            | fail
          all_goals first | (exfalso; omega) | skip
          refine loopK.nn (m2 - 1) (by omega) (by repeat (first | refine Ag.upd rfl ?_ | exact Ag.hv)) ⟨3, rfl, by omega, rfl⟩
      ·
        repeat' first
          | (refine J.isJ ?_; first | (first | (refine J.o 12 ?_; refine J.xI hΓ ?_) | (refine J.o 4 ?_; first | refine J.lR hΓ ?_ (hr := rc1.tl.tl.tl.tl.tl) | refine J.lT default hΓ ?_ (hs := hsl) (hr := RdH.hd.tl.tl))) | (first | (refine J.o 0 ?_; refine J.ev' hΓ ?_) | refine J.nil ?_ | refine J.kd ?_ | (refine J.o 4 ?_; first | refine J.lT default hΓ ?_ | refine J.lR hΓ ?_) | (refine J.o 3 ?_; first | refine J.iA hΓ ?_ | refine J.iJ hΓ ?_ | refine J.fP hΓ ?_ | refine J.ev' hΓ ?_) | (refine J.o 1 ?_; first | refine J.ad ?_) | (refine J.o 5 ?_; first | refine J.t0 hΓ ?_ | refine J.t1 hΓ ?_) | (refine J.o 6 ?_; refine J.bx (fun _ => ?_)) | (refine J.o 7 ?_; refine J.al hΓ (fun _ => ?_)) | (refine J.o 10 ?_; refine J.ev' hΓ ?_) | (refine J.o 11 ?_; refine J.ev' hΓ ?_)) | ((fail_if_success refine J.wt ?_); refine J.gc rfl rfl (fun hc => ?_) (fun hc => ?_) <;> ((try simp only [decide_eq_true_eq, decide_eq_false_iff_not, beq_iff_eq, beq_eq_false_iff_ne, bne_iff_ne, bne_eq_false_iff_eq, Bool.not_eq_true', Bool.not_eq_false', Bool.not_eq_true, Bool.not_eq_false] at hc) <;> first | (first | (exact absurd rfl hc) | (exfalso; omega) | (exact absurd (hc.symm.trans (by assumption : _ = false)) (by decide)) | (exact absurd (hc.symm.trans (by assumption : _ = true)) (by decide))) | skip)))
          | (first | refine JC.seq ?_ | refine JC.region ?_ | refine JC.block ?_ | refine JC.ret ?_ | refine JC.exit ?_ | refine JC.skip ?_ | refine thenK.nn ?_ | refine thenK.r ?_ | refine thenK.x ?_ | refine blockK.nn ?_ | refine blockK.r ?_ | refine blockK.hit rfl ?_ | refine JC.condT rfl ?_ | refine JC.condF rfl ?_ | (refine JC.cond rfl (fun hc => ?_) (fun hc => ?_) <;> ((try simp only [decide_eq_true_eq, decide_eq_false_iff_not, beq_iff_eq, beq_eq_false_iff_ne, bne_iff_ne, bne_eq_false_iff_eq, Bool.not_eq_true', Bool.not_eq_false', Bool.not_eq_true, Bool.not_eq_false] at hc) <;> first | (first | (exact absurd rfl hc) | (exfalso; omega) | (exact absurd (hc.symm.trans (by assumption : _ = false)) (by decide)) | (exact absurd (hc.symm.trans (by assumption : _ = true)) (by decide))) | skip)) | refine drawK.nn ?_ | refine loopK.x ?_)
          | (fail)
          | fail
        all_goals first | (exfalso; omega) | skip
        refine loopK.nn (m1 - 1) (by omega) (by repeat (first | refine Ag.upd rfl ?_ | exact Ag.hv)) ⟨1, rfl, by omega, min_cast _ _, rfl⟩
      ·
        repeat' first
          | (refine J.isJ ?_; first | (first | (refine J.o 12 ?_; refine J.xI hΓ ?_) | (refine J.o 4 ?_; first | refine J.lR hΓ ?_ (hr := rc1.tl.tl.tl.tl.tl) | refine J.lT default hΓ ?_ (hs := hsl) (hr := RdH.hd.tl.tl))) | (first | (refine J.o 0 ?_; refine J.ev' hΓ ?_) | refine J.nil ?_ | refine J.kd ?_ | (refine J.o 4 ?_; first | refine J.lT default hΓ ?_ | refine J.lR hΓ ?_) | (refine J.o 3 ?_; first | refine J.iA hΓ ?_ | refine J.iJ hΓ ?_ | refine J.fP hΓ ?_ | refine J.ev' hΓ ?_) | (refine J.o 1 ?_; first | refine J.ad ?_) | (refine J.o 5 ?_; first | refine J.t0 hΓ ?_ | refine J.t1 hΓ ?_) | (refine J.o 6 ?_; refine J.bx (fun _ => ?_)) | (refine J.o 7 ?_; refine J.al hΓ (fun _ => ?_)) | (refine J.o 10 ?_; refine J.ev' hΓ ?_) | (refine J.o 11 ?_; refine J.ev' hΓ ?_)) | ((fail_if_success refine J.wt ?_); refine J.gc rfl rfl (fun hc => ?_) (fun hc => ?_) <;> ((try simp only [decide_eq_true_eq, decide_eq_false_iff_not, beq_iff_eq, beq_eq_false_iff_ne, bne_iff_ne, bne_eq_false_iff_eq, Bool.not_eq_true', Bool.not_eq_false', Bool.not_eq_true, Bool.not_eq_false] at hc) <;> first | (first | (exact absurd rfl hc) | (exfalso; omega) | (exact absurd (hc.symm.trans (by assumption : _ = false)) (by decide)) | (exact absurd (hc.symm.trans (by assumption : _ = true)) (by decide))) | skip)))
          | (first | refine JC.seq ?_ | refine JC.region ?_ | refine JC.block ?_ | refine JC.ret ?_ | refine JC.exit ?_ | refine JC.skip ?_ | refine thenK.nn ?_ | refine thenK.r ?_ | refine thenK.x ?_ | refine blockK.nn ?_ | refine blockK.r ?_ | refine blockK.hit rfl ?_ | refine JC.condT rfl ?_ | refine JC.condF rfl ?_ | (refine JC.cond rfl (fun hc => ?_) (fun hc => ?_) <;> ((try simp only [decide_eq_true_eq, decide_eq_false_iff_not, beq_iff_eq, beq_eq_false_iff_ne, bne_iff_ne, bne_eq_false_iff_eq, Bool.not_eq_true', Bool.not_eq_false', Bool.not_eq_true, Bool.not_eq_false] at hc) <;> first | (first | (exact absurd rfl hc) | (exfalso; omega) | (exact absurd (hc.symm.trans (by assumption : _ = false)) (by decide)) | (exact absurd (hc.symm.trans (by assumption : _ = true)) (by decide))) | skip)) | refine drawK.nn ?_ | refine loopK.x ?_)
          | (fail)
          | fail
        all_goals first | (exfalso; omega) | skip
        refine loopK.nn (m1 - 1) (by omega) (by repeat (first | refine Ag.upd rfl ?_ | exact Ag.hv)) ⟨2, rfl, by omega, min_cast _ _, rfl⟩
      ·
        repeat' first
          | (refine J.isJ ?_; first | (first | (refine J.o 12 ?_; refine J.xI hΓ ?_) | (refine J.o 4 ?_; first | refine J.lR hΓ ?_ (hr := rc1.tl.tl.tl.tl.tl) | refine J.lT default hΓ ?_ (hs := hsl) (hr := RdH.hd.tl.tl))) | (first | (refine J.o 0 ?_; refine J.ev' hΓ ?_) | refine J.nil ?_ | refine J.kd ?_ | (refine J.o 4 ?_; first | refine J.lT default hΓ ?_ | refine J.lR hΓ ?_) | (refine J.o 3 ?_; first | refine J.iA hΓ ?_ | refine J.iJ hΓ ?_ | refine J.fP hΓ ?_ | refine J.ev' hΓ ?_) | (refine J.o 1 ?_; first | refine J.ad ?_) | (refine J.o 5 ?_; first | refine J.t0 hΓ ?_ | refine J.t1 hΓ ?_) | (refine J.o 6 ?_; refine J.bx (fun _ => ?_)) | (refine J.o 7 ?_; refine J.al hΓ (fun _ => ?_)) | (refine J.o 10 ?_; refine J.ev' hΓ ?_) | (refine J.o 11 ?_; refine J.ev' hΓ ?_)) | ((fail_if_success refine J.wt ?_); refine J.gc rfl rfl (fun hc => ?_) (fun hc => ?_) <;> ((try simp only [decide_eq_true_eq, decide_eq_false_iff_not, beq_iff_eq, beq_eq_false_iff_ne, bne_iff_ne, bne_eq_false_iff_eq, Bool.not_eq_true', Bool.not_eq_false', Bool.not_eq_true, Bool.not_eq_false] at hc) <;> first | (first | (exact absurd rfl hc) | (exfalso; omega) | (exact absurd (hc.symm.trans (by assumption : _ = false)) (by decide)) | (exact absurd (hc.symm.trans (by assumption : _ = true)) (by decide))) | skip)))
          | (first | refine JC.seq ?_ | refine JC.region ?_ | refine JC.block ?_ | refine JC.ret ?_ | refine JC.exit ?_ | refine JC.skip ?_ | refine thenK.nn ?_ | refine thenK.r ?_ | refine thenK.x ?_ | refine blockK.nn ?_ | refine blockK.r ?_ | refine blockK.hit rfl ?_ | refine JC.condT rfl ?_ | refine JC.condF rfl ?_ | (refine JC.cond rfl (fun hc => ?_) (fun hc => ?_) <;> ((try simp only [decide_eq_true_eq, decide_eq_false_iff_not, beq_iff_eq, beq_eq_false_iff_ne, bne_iff_ne, bne_eq_false_iff_eq, Bool.not_eq_true', Bool.not_eq_false', Bool.not_eq_true, Bool.not_eq_false] at hc) <;> first | (first | (exact absurd rfl hc) | (exfalso; omega) | (exact absurd (hc.symm.trans (by assumption : _ = false)) (by decide)) | (exact absurd (hc.symm.trans (by assumption : _ = true)) (by decide))) | skip)) | refine drawK.nn ?_ | refine loopK.x ?_)
          | (fail)
          | fail
        all_goals first | (exfalso; omega) | skip
        refine loopK.nn (m1 - 1) (by omega) (by repeat (first | refine Ag.upd rfl ?_ | exact Ag.hv)) ⟨3, rfl, by omega, min_cast _ _, rfl⟩
theorem choose_lev {n : Nat} {K : KS} {s : SS} (so : SOk n K s) (x : T3) (hx : x.lt s.ns.length) {c : Nat} {Φ : Nat → List ((Nat → Bool) → Bool)} (lv : Lev n Φ c) (hG : InL n Φ 0 (iteF n s.ns x)) (hfull : s.ns.length + c < 1048576) {w0 w : World} {R : Heap} {L : List Heap} {b : Nat} (hw : H w0 R (sF K b s ++ L) w) :
    Calls Try.prog 60 #[.pointer (some ⟨b, 0, none⟩), .int .i64 (x.a : Int), .int .i64 (x.b : Int), .int .i64 (x.c : Int)] w fun e w' => ∃ v L', e = .returned v ∧ H w0 R L' w' ∧ ∃ s' y, v = .int .i64 ((y : Nat) : Int) ∧ L' = sF K b s' ++ L ∧ Adds n K s s' c y ∧ Ite n s'.ns x y := by
  have hf : x.from s.ns 0 := ⟨Nat.zero_le _, Nat.zero_le _, Nat.zero_le _⟩
  unfold sF at hw
  simp only [List.cons_append, List.nil_append] at hw
  refine calls_in Try.func60 Try.ntmps60 rfl rfl (hw) ?_
  repeat' first
    | (refine J.isJ ?_; first | (first | (refine J.o 6 ?_; refine J.bx (fun c1 => ?_)) | (refine J.o 7 ?_; refine J.al hΓ (fun c2 => ?_)) | (refine J.o 14 ?_; refine J.mf hΓ ?_) | (refine J.o 9 ?_; refine J.callvx eChC rfl rfl rfl (fun w hw => chL_any n K b c1 c2 lv so.wf.two hfull n 0 s x (by omega) so hx hf (Nat.le_refl _) (InG.start n Φ s.ns) hG (L := [(c2, fnC c1 c2)] :: [(c1, ptrS b)] :: L) (H.sel (l := [_, _, _, _, _, _]) (M := L) hw [2, 3, 4, 5, 0, 1]) (Rd.hd.tl) Rd.hd) ?_; rintro _ _ ⟨s1, y1, rfl, rfl, ad1, it1, in1⟩; have hl1 := in1.len lv ad1.ok.wf so.wf.two)) | (first | (refine J.o 0 ?_; refine J.ev' hΓ ?_) | refine J.nil ?_ | (refine J.o 4 ?_; first | refine J.lR hΓ ?_) | (refine J.o 3 ?_; first | refine J.ev' hΓ ?_) | (refine J.o 5 ?_; first | refine J.t0 hΓ ?_) | (refine J.o 6 ?_; refine J.bx (fun _ => ?_)) | (refine J.o 7 ?_; refine J.al hΓ (fun _ => ?_)) | (refine J.o 8 ?_; refine J.bd hΓ ?_) | (refine J.o 10 ?_; refine J.ev' hΓ ?_) | (refine J.o 11 ?_; refine J.ev' hΓ ?_) | (refine J.o 14 ?_; refine J.mf hΓ ?_)))
    | (first | refine JC.seq ?_ | refine JC.region ?_ | refine JC.ret ?_ | refine thenK.nn ?_)
    | (fail)
    | fail
  refine ret1f rfl rfl rfl (fun w1 hw => ⟨_, _, rfl, H.sel (l := [_, _, _, _, _, _]) (M := L) hw [0, 1, 2, 3], s1, y1, rfl, rfl, ⟨ad1.ok, ad1.ext, hl1, ad1.lt⟩, it1⟩)
end Go.Proofs.Ytbhgahjeocnfcaa
namespace Go.Proofs.Ytbhgahjeocnfcaa
open Go Go.Cx
set_option linter.unusedVariables false
set_option linter.unusedSimpArgs false
theorem flat_one {α : Type} (Φ : Nat → List α) (c : Nat) (h : ∀ j, (Φ j).length ≤ c) : ∀ n, ((List.range n).flatMap Φ).length ≤ n * c
  | 0 => by simp
  | n + 1 => by
    rw [List.range_succ, List.flatMap_append, List.length_append, List.flatMap_cons, List.flatMap_nil, List.append_nil, Nat.succ_mul]
    exact Nat.add_le_add (flat_one Φ c h n) (h n)
theorem flat_if {α : Type} (k : Nat) (x : List α) : ∀ n, ((List.range n).flatMap fun j => if j = k then x else []).length ≤ x.length
  | 0 => by simp
  | n + 1 => by
    rw [List.range_succ, List.flatMap_append, List.length_append, List.flatMap_cons, List.flatMap_nil, List.append_nil]
    by_cases h : n = k
    · subst h
      rw [if_pos rfl]
      have : ((List.range n).flatMap fun j => if j = n then x else []) = [] := by
        rw [List.flatMap_eq_nil_iff]
        intro j hj
        rw [List.mem_range] at hj
        rw [if_neg (by omega)]
      rw [this]; simp
    · rw [if_neg h]
      exact flat_if k x n
theorem lev_not (n k : Nat) : Lev n (fun j => if j = k then [(fun α : Nat → Bool => !α k)] else []) 1 := by
  refine ⟨fun j f hf i b α hi => ?_, fun j f b hj hf => ?_, flat_if k _ _⟩
  · split at hf
    · rename_i h
      rw [List.mem_singleton.1 hf]
      show (!(up α i b k)) = !(α k)
      rw [up_ne α b (by omega)]
    · cases hf
  · split at hf
    · rename_i h
      rw [List.mem_singleton.1 hf]
      refine .inl fun α β => ?_
      show (!(up α j b k)) = !(up β j b k)
      rw [h, up_eq, up_eq]
    · cases hf
def clF (n : Nat) (P Q : Nat → Bool) (j : Nat) (α : Nat → Bool) : Bool := (List.range n).any fun i => decide (j ≤ i) && (Bool.or (P i && α i) (Q i && !α i))
theorem clF_iff (n : Nat) (P Q : Nat → Bool) (j : Nat) (α : Nat → Bool) : clF n P Q j α = true ↔ ∃ i, i < n ∧ j ≤ i ∧ ((P i = true ∧ α i = true) ∨ (Q i = true ∧ α i = false)) := by
  unfold clF
  rw [List.any_eq_true]
  constructor
  · rintro ⟨i, hi, h⟩
    rw [Bool.and_eq_true, decide_eq_true_iff, Bool.or_eq_true, Bool.and_eq_true, Bool.and_eq_true, Bool.not_eq_true'] at h
    exact ⟨i, List.mem_range.1 hi, h.1, h.2⟩
  · rintro ⟨i, hi, h1, h2⟩
    refine ⟨i, List.mem_range.2 hi, ?_⟩
    rw [Bool.and_eq_true, decide_eq_true_iff, Bool.or_eq_true, Bool.and_eq_true, Bool.and_eq_true, Bool.not_eq_true']
    exact ⟨h1, h2⟩
theorem lev_cl (n : Nat) (P Q : Nat → Bool) : Lev n (fun j => [clF n P Q j]) (n + 1) := by
  refine ⟨fun j f hf i b α hi => ?_, fun j f b hj hf => ?_, by have := flat_one (fun j => [clF n P Q j]) 1 (fun _ => Nat.le_refl _) (n + 1); omega⟩
  · rw [List.mem_singleton.1 hf, Bool.eq_iff_iff, clF_iff, clF_iff]
    refine exists_congr fun q => ?_
    constructor
    · rintro ⟨h1, h2, h3⟩
      rw [up_ne α b (by omega)] at h3
      exact ⟨h1, h2, h3⟩
    · rintro ⟨h1, h2, h3⟩
      rw [up_ne α b (by omega)]
      exact ⟨h1, h2, h3⟩
  · rw [List.mem_singleton.1 hf]
    by_cases hb : (P j = true ∧ b = true) ∨ (Q j = true ∧ b = false)
    · refine .inl fun α β => ?_
      have : ∀ α, clF n P Q j (up α j b) = true := fun α => (clF_iff n P Q j _).2 ⟨j, hj, Nat.le_refl _, by rw [up_eq]; exact hb⟩
      show clF n P Q j (up α j b) = clF n P Q j (up β j b)
      rw [this, this]
    · refine .inr ⟨j + 1, by omega, by omega, List.mem_singleton.2 (funext fun α => ?_)⟩
      rw [Bool.eq_iff_iff, clF_iff, clF_iff]
      refine exists_congr fun q => ?_
      constructor
      · rintro ⟨h1, h2, h3⟩
        have hq : q ≠ j := fun e => by
          rw [e, up_eq] at h3
          exact hb h3
        rw [up_ne α b hq] at h3
        exact ⟨h1, by omega, h3⟩
      · rintro ⟨h1, h2, h3⟩
        rw [up_ne α b (by omega)]
        exact ⟨h1, by omega, h3⟩
end Go.Proofs.Ytbhgahjeocnfcaa
namespace Go.Proofs.Ytbhgahjeocnfcaa
open Go Go.Cx Go.RowKit
set_option linter.unusedVariables false
set_option linter.unusedSimpArgs false
set_option maxHeartbeats 4000000
attribute [local irreducible] J JC thenK blockK loopK roundK drawK retK QW Qt pel List.set Calls
open Go.Maps Go.Lib
set_option maxRecDepth 8000
attribute [local irreducible] JE Br eK0 eK3 brK pc
def litA (order : List Int) (l : Int) (α : Nat → Bool) : Bool := if l < 0 then !α ((rk order (varI l) 0).getD 0) else α ((rk order (varI l) 0).getD 0)
def clA (order : List Int) (c : List Int) (α : Nat → Bool) : Bool := c.any fun l => litA order l α
def thA (order : List Int) (T : List (List Int)) (α : Nat → Bool) : Bool := T.all fun c => clA order c α
def costT : List (List Int) → Nat
  | [] => 0
  | c :: T => c.length * 20 + 255 + costT T
theorem costT_len : ∀ T : List (List Int), T.length ≤ costT T
  | [] => Nat.le_refl _
  | c :: T => by have := costT_len T; rw [costT, List.length_cons]; omega
theorem costT_app : ∀ (a b : List (List Int)), costT (a ++ b) = costT a + costT b
  | [], b => by rw [List.nil_append, costT, Nat.zero_add]
  | c :: a, b => by rw [List.cons_append, costT, costT, costT_app a b]; omega
theorem clA_s (order : List Int) (c : List Int) {j : Nat} (h : j < c.length) (α : Nat → Bool) : clA order (c.take (j + 1)) α = Bool.or (clA order (c.take j) α) (litA order (c.getD j default) α) := by
  unfold clA; rw [take_g c j h, List.any_append]; simp
theorem thA_s (order : List Int) (vs : List HV) {i : Nat} (h : i < vs.length) (α : Nat → Bool) : thA order ((vs.take (i + 1)).map (·.l)) α = (thA order ((vs.take i).map (·.l)) α && clA order (vs.getD i default).l α) := by
  unfold thA; rw [take_g vs i h, List.map_append, List.all_append]; simp
theorem litA_neg {order : List Int} {l : Int} {k : Nat} {α : Nat → Bool} (h : l < 0) (hk : rk order (varI l) 0 = some k) : litA order l α = !α k := by unfold litA; rw [if_pos h, hk]; rfl
theorem litA_pos {order : List Int} {l : Int} {k : Nat} {α : Nat → Bool} (h : ¬ l < 0) (hk : rk order (varI l) 0 = some k) : litA order l α = α k := by unfold litA; rw [if_neg h, hk]; rfl
theorem RdH.app {R : Heap} {L : List Heap} {h : Heap} (M : List Heap) (r : RdH R L h) : RdH R (M ++ L) h := fun x hx => Rd.app M (r x hx)
theorem rbS2 {R : Heap} (K : KS) (b : Nat) (s : SS) (M : List Heap) : Rd R (sF K b s ++ M) b (.cells ⟨[.slice K.ao K.no K.co, .map (some K.bp), .slice s.an s.ns.length s.cn, .map (some K.bu), .map (some K.bi)]⟩ 104 (0, 0)) := by unfold sF stO; exact Rd.hd
theorem addv_any {n : Nat} {K : KS} {s : SS} (so : SOk n K s) (k : Nat) (hk : k < n) (hfull : s.ns.length + 1 ≤ 1048576) {w0 w : World} {R : Heap} {L : List Heap} {b0 : Nat} (hw : H w0 R (sF K b0 s ++ L) w) :
    Calls Try.prog 58 #[.pointer (some ⟨b0, 0, none⟩), ek3 ⟨k, 0, 1⟩] w fun e w' => ∃ v L', e = .returned v ∧ H w0 R L' w' ∧ ∃ s' y, v = .int .i64 ((y : Nat) : Int) ∧ L' = sF K b0 s' ++ L ∧ Res n K s s' 1 y (fun α => α k) := by
  have two := so.wf.two
  refine (add_any so ⟨k, 0, 1⟩ hk (show 0 < s.ns.length by omega) (show 1 < s.ns.length by omega) (show k < (nd s.ns 0).p by rw [so.wf.c0]; exact hk) (show k < (nd s.ns 1).p by rw [so.wf.c1]; exact hk) (by omega) hw).mono ?_
  rintro e w' ⟨v, L', h1, h2, s1, y1, h3, h4, ad1, it1⟩
  refine ⟨v, L', h1, h2, s1, y1, h3, h4, ad1, fun α => ?_⟩
  rw [it1 α]
  show (if α k then fn n s1.ns 1 α else fn n s1.ns 0 α) = α k
  rw [fn_0 ad1.ok.wf, fn_1 ad1.ok.wf]
  cases α k <;> rfl
theorem ch3_any {n : Nat} {K : KS} {s : SS} (so : SOk n K s) (a b c : Nat) (ha : a < s.ns.length) (hb : b < s.ns.length) (hc : c < s.ns.length) (hfull : s.ns.length + (2 ^ n - 1) ≤ 1048576) {w0 w : World} {R : Heap} {L : List Heap} {b0 : Nat} (hw : H w0 R (sF K b0 s ++ L) w) :
    Calls Try.prog 60 #[.pointer (some ⟨b0, 0, none⟩), .int .i64 (a : Int), .int .i64 (b : Int), .int .i64 (c : Int)] w fun e w' => ∃ v L', e = .returned v ∧ H w0 R L' w' ∧ ∃ s' y, v = .int .i64 ((y : Nat) : Int) ∧ L' = sF K b0 s' ++ L ∧ Res n K s s' (2 ^ n - 1) y (fun α => if fn n s.ns a α then fn n s.ns b α else fn n s.ns c α) := by
  refine (choose_any so ⟨a, b, c⟩ ⟨ha, hb, hc⟩ hfull hw).mono ?_
  rintro e w' ⟨v, L', h1, h2, s1, y1, h3, h4, ad1, it1⟩
  refine ⟨v, L', h1, h2, s1, y1, h3, h4, ad1, fun α => ?_⟩
  have he := it1.eq α
  dsimp only at he
  rw [he, fn_ext so.wf ad1.ext ha, fn_ext so.wf ad1.ext hb, fn_ext so.wf ad1.ext hc]
theorem ch3_lev {n : Nat} {K : KS} {s : SS} (so : SOk n K s) (a b c : Nat) (ha : a < s.ns.length) (hb : b < s.ns.length) (hc : c < s.ns.length) {m : Nat} {Φ : Nat → List ((Nat → Bool) → Bool)} (lv : Lev n Φ m) {G : (Nat → Bool) → Bool} (hG : ∀ α, (if fn n s.ns a α then fn n s.ns b α else fn n s.ns c α) = G α) (hi : InL n Φ 0 G) (hfull : s.ns.length + m < 1048576) {w0 w : World} {R : Heap} {L : List Heap} {b0 : Nat} (hw : H w0 R (sF K b0 s ++ L) w) :
    Calls Try.prog 60 #[.pointer (some ⟨b0, 0, none⟩), .int .i64 (a : Int), .int .i64 (b : Int), .int .i64 (c : Int)] w fun e w' => ∃ v L', e = .returned v ∧ H w0 R L' w' ∧ ∃ s' y, v = .int .i64 ((y : Nat) : Int) ∧ L' = sF K b0 s' ++ L ∧ Res n K s s' m y G := by
  have e : iteF n s.ns ⟨a, b, c⟩ = G := funext hG
  refine (choose_lev so ⟨a, b, c⟩ ⟨ha, hb, hc⟩ lv (by rw [e]; exact hi) hfull hw).mono ?_
  rintro e w' ⟨v, L', h1, h2, s1, y1, h3, h4, ad1, it1⟩
  refine ⟨v, L', h1, h2, s1, y1, h3, h4, ad1, fun α => ?_⟩
  have he := it1.eq α
  dsimp only at he
  rw [he, fn_ext so.wf ad1.ext ha, fn_ext so.wf ad1.ext hb, fn_ext so.wf ad1.ext hc, hG]
def posA (order c : List Int) (i : Nat) : Bool := c.any fun l => !decide (l < 0) && decide (rk order (varI l) 0 = some i)
def negA (order c : List Int) (i : Nat) : Bool := c.any fun l => decide (l < 0) && decide (rk order (varI l) 0 = some i)
theorem clA_cl {order c : List Int} {n : Nat} (h : ∀ l ∈ c, ∃ k, k < n ∧ rk order (varI l) 0 = some k) : clA order c = clF n (posA order c) (negA order c) 0 := by
  funext α
  rw [Bool.eq_iff_iff, clF_iff]
  unfold clA posA negA
  rw [List.any_eq_true]
  constructor
  · rintro ⟨l, hl, ht⟩
    obtain ⟨k, hk, hr⟩ := h l hl
    refine ⟨k, hk, Nat.zero_le _, ?_⟩
    by_cases hn : l < 0
    · rw [litA_neg hn hr] at ht
      refine .inr ⟨List.any_eq_true.2 ⟨l, hl, ?_⟩, by simpa using ht⟩
      rw [decide_eq_true hn, decide_eq_true hr]; rfl
    · rw [litA_pos hn hr] at ht
      refine .inl ⟨List.any_eq_true.2 ⟨l, hl, ?_⟩, ht⟩
      rw [decide_eq_false hn, decide_eq_true hr]; rfl
  · rintro ⟨k, hk, _, ⟨h1, h2⟩ | ⟨h1, h2⟩⟩
    · obtain ⟨l, hl, g⟩ := List.any_eq_true.1 h1
      rw [Bool.and_eq_true, Bool.not_eq_true', decide_eq_false_iff_not, decide_eq_true_iff] at g
      exact ⟨l, hl, by rw [litA_pos g.1 g.2]; exact h2⟩
    · obtain ⟨l, hl, g⟩ := List.any_eq_true.1 h1
      rw [Bool.and_eq_true, decide_eq_true_iff, decide_eq_true_iff] at g
      exact ⟨l, hl, by rw [litA_neg g.1 g.2, h2]; rfl⟩
theorem inl_not (n k : Nat) (hk : k < n) : InL n (fun j => if j = k then [(fun α : Nat → Bool => !α k)] else []) 0 (fun α => !α k) := .inr ⟨k, Nat.zero_le _, by omega, by dsimp only; rw [if_pos rfl]; exact List.mem_cons_self⟩
theorem inl_cl (n : Nat) (P Q : Nat → Bool) : InL n (fun j => [clF n P Q j]) 0 (clF n P Q 0) := .inr ⟨0, Nat.zero_le _, Nat.zero_le _, List.mem_cons_self⟩
theorem eComC : Entr Try.prog 57 := Entr.of Try.func57 rfl rfl
theorem eCom : Entr Try.prog 16 := Entr.of Try.func16 rfl rfl
def thO (N : Int) (a : Option Addr) (m cap : Nat) : Obj := .cells ⟨[.int .i64 N, .slice a m cap]⟩ 24 (0, 0)
theorem comC_any {n : Nat} {K : KS} {s : SS} (so : SOk n K s) {order : List Int} {hO hP : Heap} (po : POk K order hO hP) (h8 : n ≤ 8) (N : Int) (a : Option Addr) (cap : Nat) (vs : List HV) (hT : Heap) (ll : LLR a vs hT) (hlit : ∀ v ∈ vs, ∀ l ∈ v.l, ∃ k, rk order (varI l) 0 = some k) (hfull : s.ns.length + costT (vs.map (·.l)) ≤ 1048576) {w0 w : World} {R : Heap} {L : List Heap} {b0 c2 c8 : Nat} (rT : RdH R L hT) (rP : RdH R L hP) (r0 : Rd R L c2 (thO N a vs.length cap)) (r1 : Rd R L c8 (ptrS b0)) (hw : H w0 R (sF K b0 s ++ L) w) :
    Calls Try.prog 57 #[.pointer (some ⟨c2, 0, none⟩), .pointer (some ⟨c8, 0, none⟩)] w fun e w' => ∃ v L', e = .returned v ∧ H w0 R L' w' ∧ ∃ s' y, v = .int .i64 ((y : Nat) : Int) ∧ L' = sF K b0 s' ++ L ∧ Res n K s s' (costT (vs.map (·.l))) y (thA order (vs.map (·.l))) := by
  have h2n := pow8 h8
  have hno := so.no
  have hpl := po.len
  have pm := po.pm
  have two := so.wf.two
  unfold thO at r0
  unfold ptrS at r1
  obtain ⟨ho, hi⟩ := ll
  have hctk : ∀ i, i < vs.length → costT ((vs.take (i + 1)).map (·.l)) = costT ((vs.take i).map (·.l)) + ((vs.getD i default).l.length * 20 + 255) := fun i h => by rw [take_g vs i h, List.map_append, costT_app]; rfl
  have hcle : ∀ i, i ≤ vs.length → costT ((vs.take i).map (·.l)) ≤ costT (vs.map (·.l)) := fun i h => by
    have : vs.map (·.l) = (vs.take i).map (·.l) ++ (vs.drop i).map (·.l) := by rw [← List.map_append, List.take_append_drop]
    rw [this, costT_app]; omega
  have hvl := costT_len (vs.map (·.l))
  rw [List.length_map] at hvl
  refine calls_in Try.func57 Try.ntmps57 rfl rfl (hw) ?_
  repeat' first
    | (refine J.isJ ?_; first | ((refine J.o 4 ?_; first | refine J.lR hΓ ?_ (hr := Rd.app _ r0))) | (first | (refine J.o 0 ?_; refine J.ev' hΓ ?_) | refine J.nil ?_ | (refine J.o 4 ?_; first | refine J.lT default hΓ ?_ | refine J.lR hΓ ?_) | (refine J.o 3 ?_; first | refine J.iJ hΓ ?_ | refine J.ev' hΓ ?_) | (refine J.o 1 ?_; first | refine J.ad ?_) | (refine J.o 8 ?_; refine J.bd hΓ ?_) | (refine J.o 10 ?_; refine J.ev' hΓ ?_) | (refine J.o 11 ?_; refine J.ev' hΓ ?_)))
    | (first | refine JC.seq ?_ | refine JC.region ?_ | refine JC.block ?_ | refine JC.ret ?_ | refine JC.exit ?_ | refine JC.skip ?_ | refine thenK.nn ?_ | refine thenK.x ?_ | refine blockK.nn ?_ | refine blockK.hit rfl ?_ | (refine JC.cond rfl (fun hc => ?_) (fun hc => ?_) <;> ((try simp only [decide_eq_true_eq, decide_eq_false_iff_not, beq_iff_eq, beq_eq_false_iff_ne, bne_iff_ne, bne_eq_false_iff_eq, Bool.not_eq_true', Bool.not_eq_false', Bool.not_eq_true, Bool.not_eq_false] at hc) <;> first | (first | (exact absurd rfl hc) | (exfalso; omega) | (exact absurd (hc.symm.trans (by assumption : _ = false)) (by decide)) | (exact absurd (hc.symm.trans (by assumption : _ = true)) (by decide))) | skip)) | refine drawK.nn ?_ | refine loopK.x ?_)
    | (fail)
    | fail
  all_goals first | (exfalso; omega) | skip
  refine JC.loop (fun i => (Nat.ble 3 i && Nat.ble i 9) || Nat.ble 13 i) (fun m g L' => ∃ i s1 y, g 13 = .int .i64 ((i : Nat) : Int) ∧ g 3 = .int .i64 ((y : Nat) : Int) ∧ i + m = vs.length ∧ Adds n K s s1 (costT ((vs.take i).map (·.l))) y ∧ (∀ α, fn n s1.ns y α = thA order ((vs.take i).map (·.l)) α) ∧ L' = sF K b0 s1 ++ L) vs.length ⟨0, s, 1, rfl, rfl, by omega, (Adds.refl so (by omega)).mono (Nat.zero_le _), fun α => fn_1 so.wf α, rfl⟩ ?_
  rintro m g L' ⟨i, s1, y, e13, e3, him, ad, hfn, rfl⟩
  refine JC.pin 13 e13 ?_
  refine JC.pin 3 e3 ?_
  have adl := ad.le
  have two1 := ad.ok.wf.two
  rcases Nat.lt_or_ge i vs.length with hlt | hge
  ·
    have hc1 := hctk i hlt
    have hc2 := hcle (i + 1) hlt
    have hmv := mem_g vs i hlt
    have hik := hi _ hmv
    have hlv := hlit _ hmv
    repeat' first
      | (refine J.isJ ?_; first | ((refine J.o 4 ?_; first | refine J.lT default hΓ ?_ (hs := ho) (hr := RdH.app _ rT))) | (first | (refine J.o 0 ?_; refine J.ev' hΓ ?_) | refine J.nil ?_ | (refine J.o 4 ?_; first | refine J.lT default hΓ ?_ | refine J.lR hΓ ?_) | (refine J.o 3 ?_; first | refine J.iJ hΓ ?_ | refine J.ev' hΓ ?_) | (refine J.o 1 ?_; first | refine J.ad ?_) | (refine J.o 8 ?_; refine J.bd hΓ ?_) | (refine J.o 10 ?_; refine J.ev' hΓ ?_) | (refine J.o 11 ?_; refine J.ev' hΓ ?_)))
      | (first | refine JC.seq ?_ | refine JC.region ?_ | refine JC.block ?_ | refine JC.ret ?_ | refine JC.exit ?_ | refine JC.skip ?_ | refine thenK.nn ?_ | refine thenK.x ?_ | refine blockK.nn ?_ | refine blockK.hit rfl ?_ | (refine JC.cond rfl (fun hc => ?_) (fun hc => ?_) <;> ((try simp only [decide_eq_true_eq, decide_eq_false_iff_not, beq_iff_eq, beq_eq_false_iff_ne, bne_iff_ne, bne_eq_false_iff_eq, Bool.not_eq_true', Bool.not_eq_false', Bool.not_eq_true, Bool.not_eq_false] at hc) <;> first | (first | (exact absurd rfl hc) | (exfalso; omega) | (exact absurd (hc.symm.trans (by assumption : _ = false)) (by decide)) | (exact absurd (hc.symm.trans (by assumption : _ = true)) (by decide))) | skip)) | refine drawK.nn ?_ | refine loopK.x ?_)
      | (fail)
      | fail
    all_goals first | (exfalso; omega) | skip
    refine JC.loop (fun i => (Nat.ble 6 i && Nat.ble i 9) || (Nat.ble 19 i && Nat.ble i 42)) (fun m2 g2 L' => ∃ j s2 y2, g2 19 = .int .i64 ((j : Nat) : Int) ∧ g2 6 = .int .i64 ((y2 : Nat) : Int) ∧ j + m2 = (vs.getD i default).l.length ∧ Adds n K s1 s2 (j * 20) y2 ∧ (∀ α, fn n s2.ns y2 α = clA order ((vs.getD i default).l.take j) α) ∧ L' = sF K b0 s2 ++ L) (vs.getD i default).l.length ⟨0, s1, 0, rfl, rfl, by omega, (Adds.refl ad.ok (by omega)).mono (Nat.zero_le _), fun α => fn_0 ad.ok.wf α, rfl⟩ ?_
    rintro m2 g2 L' ⟨j, s2, y2, e19, e6, hjm, ad2, hfn2, rfl⟩
    refine JC.pin 19 e19 ?_
    refine JC.pin 6 e6 ?_
    have adl2 := ad2.le
    have two2 := ad2.ok.wf.two
    rcases Nat.lt_or_ge j (vs.getD i default).l.length with hj | hj
    ·
      obtain ⟨k, hk⟩ := hlv _ (mem_g (vs.getD i default).l j hj)
      have hkn : k < n := by obtain ⟨_, h2, _⟩ := rk_some hk; omega
      have hvr : -9223372036854775808 ≤ varI ((vs.getD i default).l.getD j default) ∧ varI ((vs.getD i default).l.getD j default) ≤ 9223372036854775807 := by unfold varI; split <;> (try split) <;> omega
      have hkey := keyI _ hvr
      have hget : mget (order.zipIdx 0) (varI ((vs.getD i default).l.getD j default)) = some k := by rw [mget_zip, hk]
      have hcl := clA_cl (order := order) (c := (vs.getD i default).l.take (j + 1)) (n := n) fun l hl => by
        obtain ⟨q, hq⟩ := hlv l (List.mem_of_mem_take hl)
        have := (rk_some hq).2.1
        exact ⟨q, by omega, hq⟩
      have hN3 : ∀ {s3 : SS} {y3 : Nat}, SOk n K s3 → (∀ α, fn n s3.ns y3 α = α k) → ∀ α, (if fn n s3.ns y3 α then fn n s3.ns 0 α else fn n s3.ns 1 α) = !α k := fun so3 f3 α => by
        rw [f3, fn_0 so3.wf, fn_1 so3.wf]; cases α k <;> rfl
      have hN4 : ∀ {s3 s4 : SS} {y3 y4 m3 m4 : Nat}, (vs.getD i default).l.getD j default < 0 → Adds n K s2 s3 m3 y3 → Adds n K s3 s4 m4 y4 → (∀ α, fn n s3.ns y3 α = α k) → (∀ α, fn n s4.ns y4 α = !α k) → ∀ α, (if fn n s4.ns y4 α then fn n s4.ns 1 α else fn n s4.ns y2 α) = clF n (posA order ((vs.getD i default).l.take (j + 1))) (negA order ((vs.getD i default).l.take (j + 1))) 0 α := fun hg ad3 ad4 f3 f4 α => by
        rw [← hcl, f4, fn_1 ad4.ok.wf, clA_s _ _ hj, litA_neg hg hk, fn_ext ad2.ok.wf (ad3.ext.trans ad4.ext) ad2.lt, hfn2]
        cases α k <;> cases clA order ((vs.getD i default).l.take j) α <;> rfl
      have hN5 : ∀ {s3 : SS} {y3 m3 : Nat}, ¬ (vs.getD i default).l.getD j default < 0 → Adds n K s2 s3 m3 y3 → (∀ α, fn n s3.ns y3 α = α k) → ∀ α, (if fn n s3.ns y3 α then fn n s3.ns 1 α else fn n s3.ns y2 α) = clF n (posA order ((vs.getD i default).l.take (j + 1))) (negA order ((vs.getD i default).l.take (j + 1))) 0 α := fun hg ad3 f3 α => by
        rw [← hcl, f3, fn_1 ad3.ok.wf, clA_s _ _ hj, litA_pos hg hk, fn_ext ad2.ok.wf ad3.ext ad2.lt, hfn2]
        cases α k <;> cases clA order ((vs.getD i default).l.take j) α <;> rfl
      have hjb : j * 20 + 20 ≤ (vs.getD i default).l.length * 20 := by omega
      repeat' first
        | (refine J.isJ ?_; first | (first | (refine J.o 4 ?_; first | refine J.lR hΓ ?_ (hr := Rd.app _ r1) | refine J.lR hΓ ?_ (hr := rbS2 K b0 s2 L) | refine J.lT default hΓ ?_ (hs := hik) (hr := RdH.app _ rT)) | (refine J.fc 59 ?_; refine J.call0 eVarL rfl rfl (fun w hw => varL_any _ w) ?_) | (refine J.o 9 ?_; refine J.lk (a := varI ((vs.getD i default).l.getD j default)) keyedI ekI_inj pm (RdH.app _ rP) hkey hΓ ?_; rw [hget]) | (refine J.fc 58 ?_; refine J.callx eAdd rfl rfl (fun w hw => addv_any ad2.ok k hkn (by omega) hw) ?_; rintro _ _ ⟨s3, y3, rfl, rfl, ad3, f3⟩; have adl3 := ad3.le; have two3 := ad3.ok.wf.two) | (refine J.fc 60 ?_; first | (refine J.callx eCh rfl rfl (fun w hw => ch3_lev ad3.ok y3 0 1 ad3.lt (by omega) (by omega) (lev_not n k) (hN3 ad3.ok f3) (inl_not n k hkn) (by omega) hw) ?_; rintro _ _ ⟨s4, y4, rfl, rfl, ad4, f4⟩; have adl4 := ad4.le; have two4 := ad4.ok.wf.two) | (refine J.callx eCh rfl rfl (fun w hw => ch3_lev ad4.ok y4 1 y2 ad4.lt (by omega) (ad4.old (ad3.old ad2.lt)) (lev_cl n _ _) (hN4 (by omega) ad3 ad4 f3 f4) (inl_cl n _ _) (by omega) hw) ?_; rintro _ _ ⟨s5, y5, rfl, rfl, ad5, f5⟩) | (refine J.callx eCh rfl rfl (fun w hw => ch3_lev ad3.ok y3 1 y2 ad3.lt (by omega) (ad3.old ad2.lt) (lev_cl n _ _) (hN5 (by omega) ad3 f3) (inl_cl n _ _) (by omega) hw) ?_; rintro _ _ ⟨s5, y5, rfl, rfl, ad5, f5⟩))) | (first | (refine J.o 0 ?_; refine J.ev' hΓ ?_) | refine J.nil ?_ | (refine J.o 4 ?_; first | refine J.lT default hΓ ?_ | refine J.lR hΓ ?_) | (refine J.o 3 ?_; first | refine J.iJ hΓ ?_ | refine J.ev' hΓ ?_) | (refine J.o 1 ?_; first | refine J.ad ?_) | (refine J.o 8 ?_; refine J.bd hΓ ?_) | (refine J.o 10 ?_; refine J.ev' hΓ ?_) | (refine J.o 11 ?_; refine J.ev' hΓ ?_)))
        | (first | refine JC.seq ?_ | refine JC.region ?_ | refine JC.block ?_ | refine JC.ret ?_ | refine JC.exit ?_ | refine JC.skip ?_ | refine thenK.nn ?_ | refine thenK.x ?_ | refine blockK.nn ?_ | refine blockK.hit rfl ?_ | (refine JC.cond rfl (fun hc => ?_) (fun hc => ?_) <;> ((try simp only [decide_eq_true_eq, decide_eq_false_iff_not, beq_iff_eq, beq_eq_false_iff_ne, bne_iff_ne, bne_eq_false_iff_eq, Bool.not_eq_true', Bool.not_eq_false', Bool.not_eq_true, Bool.not_eq_false] at hc) <;> first | (first | (exact absurd rfl hc) | (exfalso; omega) | (exact absurd (hc.symm.trans (by assumption : _ = false)) (by decide)) | (exact absurd (hc.symm.trans (by assumption : _ = true)) (by decide))) | skip)) | refine drawK.nn ?_ | refine loopK.x ?_)
        | ((refine JC.drawO [(1,0),(1,1),(0,2),(0,3),(1,4),(0,5),(1,6),(1,7),(0,8),(2,9),(0,10)] (by decide +kernel) (by decide +kernel) ?_))
        | fail
      all_goals first | (exfalso; omega) | skip
      · refine loopK.nn (m2 - 1) (by omega) (by repeat (first | refine Ag.upd rfl ?_ | exact Ag.hv | refine Ag.hv2 (fun i hi => by simp at hi ⊢; omega) ?_)) ⟨j + 1, s5, y5, ?_, rfl, by omega, (((ad2.trans ad3).trans ad4).trans ad5).mono (by omega), fun α => ?_, rfl⟩
        · show Value.int .i64 _ = _; congr 1
        · have h3 := f3 α
          have h4 := f4 α
          have h5 := f5 α
          dsimp only at h3 h4 h5
          rw [h5, hcl]
      · refine loopK.nn (m2 - 1) (by omega) (by repeat (first | refine Ag.upd rfl ?_ | exact Ag.hv | refine Ag.hv2 (fun i hi => by simp at hi ⊢; omega) ?_)) ⟨j + 1, s5, y5, ?_, rfl, by omega, ((ad2.trans ad3).trans ad5).mono (by omega), fun α => ?_, rfl⟩
        · show Value.int .i64 _ = _; congr 1
        · have h3 := f3 α
          have h5 := f5 α
          dsimp only at h3 h5
          rw [h5, hcl]
    ·
      repeat' first
        | (refine J.isJ ?_; first | (first | (refine J.o 4 ?_; refine J.lR hΓ ?_ (hr := Rd.app _ r1)) | (refine J.fc 60 ?_; refine J.callx eCh rfl rfl (fun w hw => ch3_any ad2.ok y y2 0 (ad2.old ad.lt) ad2.lt (by omega) (by omega) hw) ?_; rintro _ _ ⟨s3, y3, rfl, rfl, ad3, f3⟩)) | (first | (refine J.o 0 ?_; refine J.ev' hΓ ?_) | refine J.nil ?_ | (refine J.o 4 ?_; first | refine J.lT default hΓ ?_ | refine J.lR hΓ ?_) | (refine J.o 3 ?_; first | refine J.iJ hΓ ?_ | refine J.ev' hΓ ?_) | (refine J.o 1 ?_; first | refine J.ad ?_) | (refine J.o 8 ?_; refine J.bd hΓ ?_) | (refine J.o 10 ?_; refine J.ev' hΓ ?_) | (refine J.o 11 ?_; refine J.ev' hΓ ?_)))
        | (first | refine JC.seq ?_ | refine JC.region ?_ | refine JC.block ?_ | refine JC.ret ?_ | refine JC.exit ?_ | refine JC.skip ?_ | refine thenK.nn ?_ | refine thenK.x ?_ | refine blockK.nn ?_ | refine blockK.hit rfl ?_ | (refine JC.cond rfl (fun hc => ?_) (fun hc => ?_) <;> ((try simp only [decide_eq_true_eq, decide_eq_false_iff_not, beq_iff_eq, beq_eq_false_iff_ne, bne_iff_ne, bne_eq_false_iff_eq, Bool.not_eq_true', Bool.not_eq_false', Bool.not_eq_true, Bool.not_eq_false] at hc) <;> first | (first | (exact absurd rfl hc) | (exfalso; omega) | (exact absurd (hc.symm.trans (by assumption : _ = false)) (by decide)) | (exact absurd (hc.symm.trans (by assumption : _ = true)) (by decide))) | skip)) | refine drawK.nn ?_ | refine loopK.x ?_)
        | (fail)
        | fail
      all_goals first | (exfalso; omega) | skip
      rw [List.take_of_length_le hj] at hfn2
      have hje : j = (vs.getD i default).l.length := by omega
      subst hje
      refine loopK.nn (m - 1) (by omega) (by repeat (first | refine Ag.upd rfl ?_ | exact Ag.hv | refine Ag.hv2 (fun i hi => by simp at hi ⊢; omega) ?_)) ⟨i + 1, s3, y3, ?_, rfl, by omega, ((ad.trans ad2).trans ad3).mono (by omega), fun α => ?_, rfl⟩
      · show Value.int .i64 _ = _; congr 1
      · have h3 := f3 α
        dsimp only at h3
        rw [h3, thA_s _ _ hlt, fn_0 ad2.ok.wf, fn_ext ad.ok.wf ad2.ext ad.lt, hfn, hfn2]
        cases thA order ((vs.take i).map (·.l)) α <;> rfl
  ·
    repeat' first
      | (refine J.isJ ?_; first | (fail) | (first | (refine J.o 0 ?_; refine J.ev' hΓ ?_) | refine J.nil ?_ | (refine J.o 4 ?_; first | refine J.lT default hΓ ?_ | refine J.lR hΓ ?_) | (refine J.o 3 ?_; first | refine J.iJ hΓ ?_ | refine J.ev' hΓ ?_) | (refine J.o 1 ?_; first | refine J.ad ?_) | (refine J.o 8 ?_; refine J.bd hΓ ?_) | (refine J.o 10 ?_; refine J.ev' hΓ ?_) | (refine J.o 11 ?_; refine J.ev' hΓ ?_)))
      | (first | refine JC.seq ?_ | refine JC.region ?_ | refine JC.block ?_ | refine JC.ret ?_ | refine JC.exit ?_ | refine JC.skip ?_ | refine thenK.nn ?_ | refine thenK.x ?_ | refine blockK.nn ?_ | refine blockK.hit rfl ?_ | (refine JC.cond rfl (fun hc => ?_) (fun hc => ?_) <;> ((try simp only [decide_eq_true_eq, decide_eq_false_iff_not, beq_iff_eq, beq_eq_false_iff_ne, bne_iff_ne, bne_eq_false_iff_eq, Bool.not_eq_true', Bool.not_eq_false', Bool.not_eq_true, Bool.not_eq_false] at hc) <;> first | (first | (exact absurd rfl hc) | (exfalso; omega) | (exact absurd (hc.symm.trans (by assumption : _ = false)) (by decide)) | (exact absurd (hc.symm.trans (by assumption : _ = true)) (by decide))) | skip)) | refine drawK.nn ?_ | refine loopK.x ?_)
      | (fail)
      | fail
    all_goals first | (exfalso; omega) | skip
    rw [List.take_of_length_le hge] at hfn ad
    refine ret1f rfl rfl rfl (fun w1 hw => ⟨_, _, rfl, hw, s1, y, rfl, rfl, ad, hfn⟩)
theorem cnt_all : ∀ k, k ≤ 128 → cntS (allS k) = k
  | 0, _ => by unfold cntS allS; rw [pc_zero]
  | k + 1, h => by
    have hh : hasB (allS k) ((k : Int) + 1) = false := by
      cases hh : hasB (allS k) ((k : Int) + 1) with
      | false => rfl
      | true => exact absurd ((has_all k _ (by omega)).1 hh) (by omega)
    rw [allS, cnt_with, cnt_all k (by omega), if_pos ⟨by omega, by omega, hh⟩]
theorem ord_of {l : List Int} {N : Nat} (hN : N ≤ 128) (h1 : l.length = N) (h2 : ofS l = allS N) : okOrd l := by
  rw [← ord_iff, h2, cnt_all N hN, h1]
theorem ord_rk {l : List Int} {N : Nat} (hN : N ≤ 128) (h2 : ofS l = allS N) {u : Int} (hu : 1 ≤ u ∧ u ≤ N) : ∃ k, rk l u 0 = some k := by
  cases h : rk l u 0 with
  | some k => exact ⟨k, rfl⟩
  | none =>
    rw [rk_none] at h
    have h3 := (has_all N u hN).2 hu
    rw [← h2] at h3
    unfold ofS at h3
    rcases (ofS_has l (0, 0) u).1 h3 with h4 | h4
    · rw [has_zero] at h4; cases h4
    · exact absurd h4.1 h
theorem varI_ok {x : Int} {N : Nat} (hN : N ≤ 128) (h : x ≠ 0 ∧ -(N : Int) ≤ x ∧ x ≤ N) : 1 ≤ varI x ∧ varI x ≤ N := by
  unfold varI; split <;> (try split) <;> omega
theorem compile_any (N : Nat) (l : List Int) (a : Option Addr) (c : Nat) (h : Heap) (hs : SlT encI 1 a l h) (aT : Option Addr) (cap : Nat) (vs : List HV) (hT : Heap) (ll : LLR aT vs hT) (hth : thE N (vs.map (·.l)) = 0) (hlen : l.length = N) (hof : ofS l = allS N) (h8 : N ≤ 8) (hcost : 2 + costT (vs.map (·.l)) ≤ 1048576) {w0 w : World} {R : Heap} {L : List Heap} (hr : RdH R L h) (rT : RdH R L hT) (hw : H w0 R L w) :
    Calls Try.prog 16 #[.agg ⟨[.int .i64 (N : Int), .slice aT vs.length cap]⟩, .slice a l.length c] w fun e w' => ∃ v L', e = .returned v ∧ H w0 R L' w' ∧ ∃ b K s y hO hP, v = .tuple #[.pointer (some ⟨b, 0, none⟩), .int .i64 ((y : Nat) : Int), .int .i64 0] ∧ L' = sF K b s ++ (hO :: hP :: L) ∧ SOk N K s ∧ POk K l hO hP ∧ y < s.ns.length ∧ (∀ α, fn N s.ns y α = thA l (vs.map (·.l)) α) ∧ s.ns.length ≤ 2 + costT (vs.map (·.l)) := by
  have cT := fun w hw => tcheck_any (N : Int) aT cap vs hT ll w hw
  rw [hth] at cT
  have ho := ord_of (by omega) hlen hof
  have hv := (thE_ok.1 hth).2.2
  subst hlen
  have hlit : ∀ v ∈ vs, ∀ x ∈ v.l, ∃ k, rk l (varI x) 0 = some k := fun v hvm x hx => ord_rk (by omega) hof (varI_ok (by omega) ((hv v.l (List.mem_map_of_mem hvm)).2 x hx))
  have cO := fun w hw => of_any a c l h hs (by omega) w hw
  have cA := fun w => all_any l.length (by omega) w
  have hofd : decide (ofS l = allS l.length) = true := decide_eq_true hof
  refine calls_in Try.func16 Try.ntmps16 rfl rfl (hw) ?_
  repeat' first
    | (refine J.isJ ?_; first | (first | (refine J.o 6 ?_; refine J.bx (fun c2 => ?_)) | (refine J.o 4 ?_; first | refine J.lR hΓ ?_ (hr := Rd.hd)) | (refine J.fc 53 ?_; refine J.call0 eTCheck rfl rfl (fun w hw => cT w (hw.rdH rT.tl)) ?_) | (refine J.fc 54 ?_; refine J.call0 eOf rfl rfl (fun w hw => cO w (hw.rdH hr.tl)) ?_) | (refine J.fc 55 ?_; refine J.call0 eAllV rfl rfl (fun w hw => cA w) ?_) | (refine J.o 11 ?_; refine J.nA (a := ofS l) (b := allS l.length) hΓ ?_; rw [hofd]) | (refine J.fc 25 ?_; refine J.callx eNew rfl rfl (fun w hw => new_any l a c h hs ho hr.tl hw) ?_; rintro _ _ ⟨b0, K, s, hO, hP, rfl, rfl, so, hns, po⟩; have hn2 : s.ns.length = 2 := (by rw [hns]; rfl); unfold sF; simp only [List.cons_append, List.nil_append]) | (refine J.o 7 ?_; refine J.al hΓ (fun c8 => ?_)) | (refine J.o 14 ?_; refine J.mfV [.pointer (some ⟨c2, 0, none⟩), .pointer (some ⟨c8, 0, none⟩)] hΓ ?_) | (refine J.fc 56 ?_; refine J.callx eTry rfl rfl (fun w hw => try_any so (Q := fun s' y => Res l.length K s s' (costT (vs.map (·.l))) y (thA l (vs.map (·.l)))) eComC [] none 0 [] (slNil _) (by show 0 ≤ 1000; omega) (L := [(c8, ptrS b0)] :: hO :: hP :: [(c2, thO (l.length : Int) aT vs.length cap)] :: L) (fun x hx => by cases hx) rfl (fun Lx w hw => comC_any so po h8 (l.length : Int) aT cap vs hT ll hlit (by omega) (RdH.app Lx rT.tl.tl.tl.tl) (RdH.app Lx RdH.hd.tl.tl) (Rd.app Lx Rd.hd.tl.tl.tl) (Rd.app Lx Rd.hd) hw) (H.sel (l := [_, _, _, _, _, _, _, _]) (M := L) hw [1, 2, 3, 4, 0, 5, 6, 7])) ?_; rintro _ _ ⟨s1, y1, rfl, rfl, ad1, f1⟩; unfold ptrS) | (refine J.o 4 ?_; refine J.lR hΓ ?_ (hr := Rd.app _ Rd.hd))) | (first | (refine J.o 0 ?_; refine J.ev' hΓ ?_) | refine J.nil ?_ | (refine J.o 4 ?_; first | refine J.lR hΓ ?_) | (refine J.o 3 ?_; first | refine J.ev' hΓ ?_) | (refine J.o 5 ?_; first | refine J.t0 hΓ ?_) | (refine J.o 6 ?_; refine J.bx (fun _ => ?_)) | (refine J.o 7 ?_; refine J.al hΓ (fun _ => ?_)) | (refine J.o 10 ?_; refine J.ev' hΓ ?_) | (refine J.o 11 ?_; refine J.ev' hΓ ?_)) | ((fail_if_success refine J.wt ?_); refine J.gc rfl rfl (fun hc => ?_) (fun hc => ?_) <;> ((try simp only [decide_eq_true_eq, decide_eq_false_iff_not, beq_iff_eq, beq_eq_false_iff_ne, bne_iff_ne, bne_eq_false_iff_eq, Bool.not_eq_true', Bool.not_eq_false', Bool.not_eq_true, Bool.not_eq_false] at hc) <;> first | (first | (exact absurd rfl hc) | (exfalso; omega) | (exact absurd (hc.symm.trans (by assumption : _ = false)) (by decide)) | (exact absurd (hc.symm.trans (by assumption : _ = true)) (by decide))) | skip)))
    | (first | refine JC.seq ?_ | refine JC.region ?_ | refine JC.ret ?_ | refine JC.skip ?_ | refine thenK.nn ?_ | refine JC.condF rfl ?_ | refine drawK.nn ?_)
    | ((refine JC.drawW [] [] (by kernel_rfl) (by kernel_rfl) ?_))
    | fail
  all_goals first | (exfalso; omega) | skip
  refine ret3f rfl rfl rfl rfl rfl rfl rfl (fun w1 hw => ⟨_, _, rfl, H.sel (l := [_, _, _, _, _, _, _, _]) (M := L) hw [0, 1, 2, 3, 5, 6], b0, K, s1, y1, hO, hP, rfl, rfl, ad1.ok, po, ad1.lt, f1, by have := ad1.le; have h2 : s.ns.length = 2 := (by rw [hns]; rfl); omega⟩)
end Go.Proofs.Ytbhgahjeocnfcaa
namespace Go.Proofs.Ytbhgahjeocnfcaa
open Go Go.Cx Go.RowKit
set_option linter.unusedVariables false
set_option linter.unusedSimpArgs false
set_option maxHeartbeats 4000000
attribute [local irreducible] J JC thenK blockK loopK roundK drawK retK QW Qt pel List.set Calls
set_option maxRecDepth 8000
attribute [local irreducible] JE Br eK0 eK3 brK pc
def ints : Nat → List Int
  | 0 => []
  | k + 1 => ints k ++ [(k : Int) + 1]
theorem ints_mem : ∀ (k : Nat) (u : Int), u ∈ ints k ↔ 1 ≤ u ∧ u ≤ k
  | 0, u => by simp [ints]; omega
  | k + 1, u => by
    rw [ints, List.mem_append, ints_mem k u, List.mem_singleton]
    constructor
    · rintro (h | h) <;> omega
    · intro h; by_cases hu : u = k + 1
      · exact .inr hu
      · exact .inl ⟨h.1, by omega⟩
theorem ints_succ (k : Nat) : ints (k + 1) = ints k ++ [(k : Int) + 1] := rfl
attribute [local irreducible] ints
end Go.Proofs.Ytbhgahjeocnfcaa
namespace Go.Proofs.Ytbhgahjeocnfcaa
open Go Go.Cx Go.RowKit
set_option linter.unusedVariables false
set_option linter.unusedSimpArgs false
set_option maxHeartbeats 4000000
attribute [local irreducible] J JC thenK blockK loopK roundK drawK retK QW Qt pel List.set Calls
open Go.Maps Go.Lib
set_option maxRecDepth 8000
attribute [local irreducible] JE Br eK0 eK3 brK pc
theorem eUpTo : Entr Try.prog 50 := Entr.of Try.func50 rfl rfl
theorem eSame3 : Entr Try.prog 18 := Entr.of Try.func18 rfl rfl
theorem ints_len : ∀ n, (ints n).length = n
  | 0 => by unfold ints; rfl
  | n + 1 => by rw [ints_succ, List.length_append, ints_len n]; rfl
theorem upTo_any (n : Nat) (hn : n ≤ 1000) (w : World) : Calls Try.prog 50 #[.int .i64 (n : Int)] w (Gives (Sls encI 1 3 (ints n)) w) := by
  refine calls_of_JC (R := []) Try.func50 Try.ntmps50 rfl rfl (Holds.nil _) ?_
  repeat' first
    | (refine J.isJ ?_; first | (fail) | (first | (refine J.o 0 ?_; refine J.ev' hΓ ?_) | refine J.nil ?_ | (refine J.o 3 ?_; first | refine J.ev' hΓ ?_) | (refine J.o 1 ?_; first | refine J.ad ?_) | (refine J.o 9 ?_; refine J.bl hΓ (fun _ => ?_)) | (refine J.o 10 ?_; refine J.ev' hΓ ?_) | (refine J.o 11 ?_; refine J.ev' hΓ ?_)))
    | (first | refine JC.seq ?_ | refine JC.region ?_ | refine JC.block ?_ | refine JC.ret ?_ | refine JC.exit ?_ | refine JC.skip ?_ | refine thenK.nn ?_ | refine thenK.x ?_ | refine blockK.nn ?_ | refine blockK.hit rfl ?_ | (refine JC.cond rfl (fun hc => ?_) (fun hc => ?_) <;> ((try simp only [decide_eq_true_eq, decide_eq_false_iff_not, beq_iff_eq, beq_eq_false_iff_ne, bne_iff_ne, bne_eq_false_iff_eq, Bool.not_eq_true', Bool.not_eq_false', Bool.not_eq_true, Bool.not_eq_false] at hc) <;> first | (first | (exact absurd rfl hc) | (exfalso; omega) | (exact absurd (hc.symm.trans (by assumption : _ = false)) (by decide)) | (exact absurd (hc.symm.trans (by assumption : _ = true)) (by decide))) | skip)) | refine loopK.x ?_)
    | (fail)
    | fail
  all_goals first | (exfalso; omega) | skip
  refine JC.nilF ?_
  refine JC.loop (fun i => i == 3 || i == 4 || Nat.ble 5 i) (fun m g L => ∃ (k : Nat) (a : Option Addr) (c : Nat) (h : Heap), g 4 = .int .i64 ((k + 1 : Nat) : Int) ∧ g 3 = .slice a (ints k).length c ∧ k + m = n ∧ OwT encI 1 3 a c (ints k) h ∧ L = [h]) n ⟨0, none, 0, [], rfl, by unfold ints; rfl, by omega, by unfold ints; exact OwT.nil (fun _ => rfl), rfl⟩ ?_
  rintro m g L ⟨k, a, c, h, e4, e3, hkm, oo, rfl⟩
  refine JC.pin 4 e4 (JC.pin 3 e3 ?_)
  have hil := ints_len k
  rcases Nat.lt_or_ge k n with hk | hk
  ·
    have hs := ints_succ k
    repeat' first
      | (refine J.isJ ?_; first | ((refine J.o 9 ?_; first | (first | (refine J.ap1 (enc := encI) [((k + 1 : Nat) : Int)] hΓ (fun a2 c2 h2 o2 => ?_))))) | (first | (refine J.o 0 ?_; refine J.ev' hΓ ?_) | refine J.nil ?_ | (refine J.o 3 ?_; first | refine J.ev' hΓ ?_) | (refine J.o 1 ?_; first | refine J.ad ?_) | (refine J.o 9 ?_; refine J.bl hΓ (fun _ => ?_)) | (refine J.o 10 ?_; refine J.ev' hΓ ?_) | (refine J.o 11 ?_; refine J.ev' hΓ ?_)))
      | (first | refine JC.seq ?_ | refine JC.region ?_ | refine JC.block ?_ | refine JC.ret ?_ | refine JC.exit ?_ | refine JC.skip ?_ | refine thenK.nn ?_ | refine thenK.x ?_ | refine blockK.nn ?_ | refine blockK.hit rfl ?_ | (refine JC.cond rfl (fun hc => ?_) (fun hc => ?_) <;> ((try simp only [decide_eq_true_eq, decide_eq_false_iff_not, beq_iff_eq, beq_eq_false_iff_ne, bne_iff_ne, bne_eq_false_iff_eq, Bool.not_eq_true', Bool.not_eq_false', Bool.not_eq_true, Bool.not_eq_false] at hc) <;> first | (first | (exact absurd rfl hc) | (exfalso; omega) | (exact absurd (hc.symm.trans (by assumption : _ = false)) (by decide)) | (exact absurd (hc.symm.trans (by assumption : _ = true)) (by decide))) | skip)) | refine loopK.x ?_)
      | (fail)
      | fail
    all_goals first | (exfalso; omega) | skip
    have e : ints k ++ [((k + 1 : Nat) : Int)] = ints (k + 1) := hs.symm
    rw [e] at o2
    refine loopK.nn (m - 1) (by omega) (by repeat (first | refine Ag.upd rfl ?_ | exact Ag.hv)) ⟨k + 1, a2, c2, h2, ?_, ?_, by omega, o2, rfl⟩
    · show Value.int .i64 _ = _; congr 1
    · show Value.slice _ _ _ = _; rw [e]
  ·
    obtain rfl : k = n := by omega
    repeat' first
      | (refine J.isJ ?_; first | (fail) | (first | (refine J.o 0 ?_; refine J.ev' hΓ ?_) | refine J.nil ?_ | (refine J.o 3 ?_; first | refine J.ev' hΓ ?_) | (refine J.o 1 ?_; first | refine J.ad ?_) | (refine J.o 9 ?_; refine J.bl hΓ (fun _ => ?_)) | (refine J.o 10 ?_; refine J.ev' hΓ ?_) | (refine J.o 11 ?_; refine J.ev' hΓ ?_)))
      | (first | refine JC.seq ?_ | refine JC.region ?_ | refine JC.block ?_ | refine JC.ret ?_ | refine JC.exit ?_ | refine JC.skip ?_ | refine thenK.nn ?_ | refine thenK.x ?_ | refine blockK.nn ?_ | refine blockK.hit rfl ?_ | (refine JC.cond rfl (fun hc => ?_) (fun hc => ?_) <;> ((try simp only [decide_eq_true_eq, decide_eq_false_iff_not, beq_iff_eq, beq_eq_false_iff_ne, bne_iff_ne, bne_eq_false_iff_eq, Bool.not_eq_true', Bool.not_eq_false', Bool.not_eq_true, Bool.not_eq_false] at hc) <;> first | (first | (exact absurd rfl hc) | (exfalso; omega) | (exact absurd (hc.symm.trans (by assumption : _ = false)) (by decide)) | (exact absurd (hc.symm.trans (by assumption : _ = true)) (by decide))) | skip)) | refine loopK.x ?_)
      | (fail)
      | fail
    all_goals first | (exfalso; omega) | skip
    exact ret1f rfl rfl rfl (fun w1 hw => Gives.of hw ⟨_, _, rfl, oo⟩)
def smallP (n : Int) (N : Int) (T : List (List Int)) : Prop := 0 ≤ N ∧ N ≤ n ∧ T.length ≤ 30 ∧ (∀ c ∈ T, c.length ≤ 10) ∧ thE N T = 0
instance (n N : Int) (T : List (List Int)) : Decidable (smallP n N T) := by unfold smallP; exact inferInstance
theorem same3_any (f g : List Int) (af ag : Option Addr) (cf cg : Nat) (h : Heap) (sf : SlT encI 1 af f h) (sg : SlT encI 1 ag g h) (hl : f.length ≤ 100000) (hl2 : g.length ≤ 100000) (w : World) (hw1 : Holds h w) :
    Calls Try.prog 18 #[.slice af f.length cf, .slice ag g.length cg] w fun e w' => e = .returned (.bool (decide (f = g))) ∧ Below w.heap.size w w' := by
  have q0 : ∀ L, RdH h L h := fun L => RdH.old fun _ hh => hh
  by_cases hlen : f.length = g.length
  case neg =>
    rw [decide_eq_false (fun e => hlen (by rw [e]))]
    refine calls_of_JC (R := h) Try.func18 Try.ntmps18 rfl rfl (hw1) ?_
    repeat' first
      | (refine J.isJ ?_; first | (fail) | (first | (refine J.o 0 ?_; refine J.ev' hΓ ?_) | refine J.nil ?_ | (refine J.o 4 ?_; first | refine J.lT default hΓ ?_) | (refine J.o 3 ?_; first | refine J.iJ hΓ ?_ | refine J.ev' hΓ ?_) | (refine J.o 1 ?_; first | refine J.ad ?_) | (refine J.o 10 ?_; refine J.ev' hΓ ?_) | (refine J.o 11 ?_; refine J.ev' hΓ ?_)))
      | (first | refine JC.seq ?_ | refine JC.region ?_ | refine JC.block ?_ | refine JC.ret ?_ | refine JC.exit ?_ | refine JC.skip ?_ | refine thenK.nn ?_ | refine thenK.r ?_ | refine thenK.x ?_ | refine blockK.nn ?_ | refine blockK.r ?_ | refine blockK.hit rfl ?_ | refine JC.condT rfl ?_ | refine JC.condF rfl ?_ | (refine JC.cond rfl (fun hc => ?_) (fun hc => ?_) <;> ((try simp only [decide_eq_true_eq, decide_eq_false_iff_not, beq_iff_eq, beq_eq_false_iff_ne, bne_iff_ne, bne_eq_false_iff_eq, Bool.not_eq_true', Bool.not_eq_false', Bool.not_eq_true, Bool.not_eq_false] at hc) <;> first | (first | (exact absurd rfl hc) | (exfalso; omega) | (exact absurd (hc.symm.trans (by assumption : _ = false)) (by decide)) | (exact absurd (hc.symm.trans (by assumption : _ = true)) (by decide))) | skip)) | refine drawK.nn ?_ | refine loopK.r ?_ | refine loopK.x ?_)
      | (fail)
      | fail
    all_goals first | (exfalso; omega) | skip
    all_goals (refine ret1f rfl rfl rfl (fun w1 hw => ⟨rfl, hw.below⟩))
  refine calls_of_JC (R := h) Try.func18 Try.ntmps18 rfl rfl (hw1) ?_
  repeat' first
    | (refine J.isJ ?_; first | (fail) | (first | (refine J.o 0 ?_; refine J.ev' hΓ ?_) | refine J.nil ?_ | (refine J.o 4 ?_; first | refine J.lT default hΓ ?_) | (refine J.o 3 ?_; first | refine J.iJ hΓ ?_ | refine J.ev' hΓ ?_) | (refine J.o 1 ?_; first | refine J.ad ?_) | (refine J.o 10 ?_; refine J.ev' hΓ ?_) | (refine J.o 11 ?_; refine J.ev' hΓ ?_)))
    | (first | refine JC.seq ?_ | refine JC.region ?_ | refine JC.block ?_ | refine JC.ret ?_ | refine JC.exit ?_ | refine JC.skip ?_ | refine thenK.nn ?_ | refine thenK.r ?_ | refine thenK.x ?_ | refine blockK.nn ?_ | refine blockK.r ?_ | refine blockK.hit rfl ?_ | refine JC.condT rfl ?_ | refine JC.condF rfl ?_ | (refine JC.cond rfl (fun hc => ?_) (fun hc => ?_) <;> ((try simp only [decide_eq_true_eq, decide_eq_false_iff_not, beq_iff_eq, beq_eq_false_iff_ne, bne_iff_ne, bne_eq_false_iff_eq, Bool.not_eq_true', Bool.not_eq_false', Bool.not_eq_true, Bool.not_eq_false] at hc) <;> first | (first | (exact absurd rfl hc) | (exfalso; omega) | (exact absurd (hc.symm.trans (by assumption : _ = false)) (by decide)) | (exact absurd (hc.symm.trans (by assumption : _ = true)) (by decide))) | skip)) | refine drawK.nn ?_ | refine loopK.r ?_ | refine loopK.x ?_)
    | (fail)
    | fail
  all_goals first | (exfalso; omega) | skip
  refine JC.loop (fun i => i == 4 || i == 5 || Nat.ble 11 i) (fun m gg L => ∃ q : Nat, gg 5 = .int .i64 (q : Int) ∧ q + m = f.length ∧ (∀ j, j < q → f.getD j default = g.getD j default) ∧ L = []) f.length ⟨0, rfl, by omega, fun j hj => absurd hj (Nat.not_lt_zero _), rfl⟩ ?_
  rintro m gg L ⟨q, e5, hqm, heq, rfl⟩
  refine JC.pin 5 e5 ?_
  rcases Nat.lt_or_ge q f.length with hq | hq
  ·
    by_cases hx : f.getD q default = g.getD q default
    ·
      have hd : (f.getD q default != g.getD q default) = false := by rw [hx]; simp
      repeat' first
        | (refine J.isJ ?_; first | (first | (refine J.o 3 ?_; first | refine J.iJ hΓ ?_ (hs := sf) | refine J.iJ hΓ ?_ (hs := sg)) | (refine J.o 4 ?_; first | refine J.lT default hΓ ?_ (hs := sf) (hr := q0 _) | refine J.lT default hΓ ?_ (hs := sg) (hr := q0 _)) | (refine J.o 11 ?_; refine J.ev' hΓ ?_; rw [hd])) | (first | (refine J.o 0 ?_; refine J.ev' hΓ ?_) | refine J.nil ?_ | (refine J.o 4 ?_; first | refine J.lT default hΓ ?_) | (refine J.o 3 ?_; first | refine J.iJ hΓ ?_ | refine J.ev' hΓ ?_) | (refine J.o 1 ?_; first | refine J.ad ?_) | (refine J.o 10 ?_; refine J.ev' hΓ ?_) | (refine J.o 11 ?_; refine J.ev' hΓ ?_)))
        | (first | refine JC.seq ?_ | refine JC.region ?_ | refine JC.block ?_ | refine JC.ret ?_ | refine JC.exit ?_ | refine JC.skip ?_ | refine thenK.nn ?_ | refine thenK.r ?_ | refine thenK.x ?_ | refine blockK.nn ?_ | refine blockK.r ?_ | refine blockK.hit rfl ?_ | refine JC.condT rfl ?_ | refine JC.condF rfl ?_ | (refine JC.cond rfl (fun hc => ?_) (fun hc => ?_) <;> ((try simp only [decide_eq_true_eq, decide_eq_false_iff_not, beq_iff_eq, beq_eq_false_iff_ne, bne_iff_ne, bne_eq_false_iff_eq, Bool.not_eq_true', Bool.not_eq_false', Bool.not_eq_true, Bool.not_eq_false] at hc) <;> first | (first | (exact absurd rfl hc) | (exfalso; omega) | (exact absurd (hc.symm.trans (by assumption : _ = false)) (by decide)) | (exact absurd (hc.symm.trans (by assumption : _ = true)) (by decide))) | skip)) | refine drawK.nn ?_ | refine loopK.r ?_ | refine loopK.x ?_)
        | ((refine JC.drawW [] [] (by kernel_rfl) (by kernel_rfl) ?_))
        | fail
      all_goals first | (exfalso; omega) | skip
      refine loopK.nn (m - 1) (by omega) (by repeat (first | refine Ag.upd rfl ?_ | exact Ag.hv)) ⟨q + 1, ?_, by omega, fun j hj => ?_, rfl⟩
      · show Value.int .i64 _ = _; congr 1
      · rcases Nat.lt_or_ge j q with g1 | g1
        · exact heq j g1
        · obtain rfl : j = q := by omega
          exact hx
    ·
      have hd : (f.getD q default != g.getD q default) = true := by simpa using hx
      rw [decide_eq_false (fun e => hx (by rw [e]))]
      repeat' first
        | (refine J.isJ ?_; first | (first | (refine J.o 3 ?_; first | refine J.iJ hΓ ?_ (hs := sf) | refine J.iJ hΓ ?_ (hs := sg)) | (refine J.o 4 ?_; first | refine J.lT default hΓ ?_ (hs := sf) (hr := q0 _) | refine J.lT default hΓ ?_ (hs := sg) (hr := q0 _)) | (refine J.o 11 ?_; refine J.ev' hΓ ?_; rw [hd])) | (first | (refine J.o 0 ?_; refine J.ev' hΓ ?_) | refine J.nil ?_ | (refine J.o 4 ?_; first | refine J.lT default hΓ ?_) | (refine J.o 3 ?_; first | refine J.iJ hΓ ?_ | refine J.ev' hΓ ?_) | (refine J.o 1 ?_; first | refine J.ad ?_) | (refine J.o 10 ?_; refine J.ev' hΓ ?_) | (refine J.o 11 ?_; refine J.ev' hΓ ?_)))
        | (first | refine JC.seq ?_ | refine JC.region ?_ | refine JC.block ?_ | refine JC.ret ?_ | refine JC.exit ?_ | refine JC.skip ?_ | refine thenK.nn ?_ | refine thenK.r ?_ | refine thenK.x ?_ | refine blockK.nn ?_ | refine blockK.r ?_ | refine blockK.hit rfl ?_ | refine JC.condT rfl ?_ | refine JC.condF rfl ?_ | (refine JC.cond rfl (fun hc => ?_) (fun hc => ?_) <;> ((try simp only [decide_eq_true_eq, decide_eq_false_iff_not, beq_iff_eq, beq_eq_false_iff_ne, bne_iff_ne, bne_eq_false_iff_eq, Bool.not_eq_true', Bool.not_eq_false', Bool.not_eq_true, Bool.not_eq_false] at hc) <;> first | (first | (exact absurd rfl hc) | (exfalso; omega) | (exact absurd (hc.symm.trans (by assumption : _ = false)) (by decide)) | (exact absurd (hc.symm.trans (by assumption : _ = true)) (by decide))) | skip)) | refine drawK.nn ?_ | refine loopK.r ?_ | refine loopK.x ?_)
        | ((refine JC.drawW [] [] (by kernel_rfl) (by kernel_rfl) ?_))
        | fail
      all_goals first | (exfalso; omega) | skip
      all_goals (refine ret1f rfl rfl rfl (fun w1 hw => ⟨rfl, hw.below⟩))
  ·
    have he : f = g := by
      refine List.ext_getElem hlen fun i h1 h2 => ?_
      have := heq i (by omega)
      rw [List.getD_eq_getElem?_getD, List.getD_eq_getElem?_getD, List.getElem?_eq_getElem h1, List.getElem?_eq_getElem h2] at this
      exact this
    rw [decide_eq_true he]
    repeat' first
      | (refine J.isJ ?_; first | (fail) | (first | (refine J.o 0 ?_; refine J.ev' hΓ ?_) | refine J.nil ?_ | (refine J.o 4 ?_; first | refine J.lT default hΓ ?_) | (refine J.o 3 ?_; first | refine J.iJ hΓ ?_ | refine J.ev' hΓ ?_) | (refine J.o 1 ?_; first | refine J.ad ?_) | (refine J.o 10 ?_; refine J.ev' hΓ ?_) | (refine J.o 11 ?_; refine J.ev' hΓ ?_)))
      | (first | refine JC.seq ?_ | refine JC.region ?_ | refine JC.block ?_ | refine JC.ret ?_ | refine JC.exit ?_ | refine JC.skip ?_ | refine thenK.nn ?_ | refine thenK.r ?_ | refine thenK.x ?_ | refine blockK.nn ?_ | refine blockK.r ?_ | refine blockK.hit rfl ?_ | refine JC.condT rfl ?_ | refine JC.condF rfl ?_ | (refine JC.cond rfl (fun hc => ?_) (fun hc => ?_) <;> ((try simp only [decide_eq_true_eq, decide_eq_false_iff_not, beq_iff_eq, beq_eq_false_iff_ne, bne_iff_ne, bne_eq_false_iff_eq, Bool.not_eq_true', Bool.not_eq_false', Bool.not_eq_true, Bool.not_eq_false] at hc) <;> first | (first | (exact absurd rfl hc) | (exfalso; omega) | (exact absurd (hc.symm.trans (by assumption : _ = false)) (by decide)) | (exact absurd (hc.symm.trans (by assumption : _ = true)) (by decide))) | skip)) | refine drawK.nn ?_ | refine loopK.r ?_ | refine loopK.x ?_)
      | (fail)
      | fail
    all_goals first | (exfalso; omega) | skip
    all_goals (refine ret1f rfl rfl rfl (fun w1 hw => ⟨rfl, hw.below⟩))
end Go.Proofs.Ytbhgahjeocnfcaa
namespace Go.Proofs.Ytbhgahjeocnfcaa
open Go Go.Cx Go.RowKit
set_option linter.unusedVariables false
set_option linter.unusedSimpArgs false
set_option maxHeartbeats 4000000
attribute [local irreducible] J JC thenK blockK loopK roundK drawK retK QW Qt pel List.set Calls
open Go.Maps Go.Lib
set_option maxRecDepth 8000
attribute [local irreducible] JE Br eK0 eK3 brK pc
def mapD (b : Nat) : Obj := .cells ⟨[.map (some b)]⟩ 40 (0, 0)
end Go.Proofs.Ytbhgahjeocnfcaa
namespace Go.Proofs.Ytbhgahjeocnfcaa
open Go Go.Cx Go.RowKit
set_option linter.unusedVariables false
set_option linter.unusedSimpArgs false
set_option maxHeartbeats 4000000
attribute [local irreducible] J JC thenK blockK loopK roundK drawK retK QW Qt pel List.set Calls
open Go.Maps Go.Lib
set_option maxRecDepth 8000
attribute [local irreducible] JE Br eK0 eK3 brK pc
abbrev BF := (Nat → Bool) → Bool
section
variable {P : Program} {n : Nat} {w0 : World} {R : Heap} {l0 : List Oper} {K : Exit → Fr → List Heap → Prop} {f : Fr} {L : List Heap} {rest : List (Nat × Oper)} {κ : Nat}
variable {d : Nat} {ty : TypeId} {pos : String} {aft : Array Edge} {g : Option (Nat × Bool)} {t u : TypeId} {x y : Operand}
theorem J.neF {Γ : List (Nat × TI)} {a b : Nat} (hΓ : Fits P Γ) (h : a = b) (k : J P n w0 R l0 K rest (upd f d (.bool false)) L) (hg : wantB n f l0 ⟨some d, .binOp .neq t x y u, ty, pos, aft, g⟩ = true := by exact rfl) (hx : Cx.ev n f x = .int .i64 (a : Int) := by exact rfl) (hy : Cx.ev n f y = .int .i64 (b : Int) := by exact rfl) (hv : pureEv Γ (Cx.ev n f) (.binOp .neq t x y u) = some (.bool ((a : Int) != (b : Int))) := by exact rfl) : J P n w0 R l0 K ((κ, ⟨some d, .binOp .neq t x y u, ty, pos, aft, g⟩) :: rest) f L := by
  subst h
  have e : ((a : Int) != (a : Int)) = false := by simp
  rw [e] at hv
  exact J.ev hΓ hg hv k
end
end Go.Proofs.Ytbhgahjeocnfcaa
namespace Go.Proofs.Ytbhgahjeocnfcaa
open Go Go.Cx Go.RowKit
set_option linter.unusedVariables false
set_option linter.unusedSimpArgs false
set_option maxHeartbeats 4000000
attribute [local irreducible] J JC thenK blockK loopK roundK drawK retK QW Qt pel List.set Calls
open Go.Maps Go.Lib
set_option maxRecDepth 8000
attribute [local irreducible] JE Br eK0 eK3 brK pc
theorem natI_len (l : List Nat) : (natI l).length = l.length := List.length_map _
theorem lvls_len (n : Nat) (ns : List N3) (i : Nat) : ∀ m, ((List.range m).flatMap (lvl n ns i)).length = 2 ^ m - 1
  | 0 => rfl
  | m + 1 => by
    have := Nat.one_le_two_pow (n := m)
    rw [List.range_succ, List.flatMap_append, List.length_append, lvls_len n ns i m, List.flatMap_cons, List.flatMap_nil, List.append_nil, lvl_len, Nat.pow_succ]; omega
theorem rch_len {n : Nat} {ns : List N3} (w : WF n ns) {i : Nat} (hi : i < ns.length) {A : List Nat} (hn : A.Nodup) (h : ∀ x ∈ A, Rch ns i x) : A.length ≤ 2 ^ n + 1 := by
  have hs : ∀ x ∈ A, x ∈ 0 :: 1 :: (List.range n).flatMap (lvl n ns i) := fun x hx => by
    rcases Nat.lt_or_ge x 2 with h2 | h2
    · have : x = 0 ∨ x = 1 := by omega
      rcases this with rfl | rfl <;> simp
    · have hr := h x hx
      have hp := w.pl x h2 (hr.lt w hi)
      refine List.mem_cons_of_mem _ (List.mem_cons_of_mem _ (List.mem_flatMap.2 ⟨(nd ns x).p, List.mem_range.2 hp, ?_⟩))
      exact ((lvl_iff w hi hp).2 ⟨hr, h2, rfl⟩).1
  have := nodup_sub _ _ hn hs
  have h1 := Nat.one_le_two_pow (n := n)
  rw [List.length_cons, List.length_cons, lvls_len] at this
  omega
end Go.Proofs.Ytbhgahjeocnfcaa
namespace Go.Proofs.Ytbhgahjeocnfcaa
open Go Go.Cx Go.RowKit
set_option linter.unusedVariables false
set_option linter.unusedSimpArgs false
set_option maxHeartbeats 4000000
attribute [local irreducible] J JC thenK blockK loopK roundK drawK retK QW Qt pel List.set Calls
open Go.Maps Go.Lib
set_option maxRecDepth 8000
attribute [local irreducible] JE Br eK0 eK3 brK pc
def tabF (n : Nat) (g : BF) : List Bool := (List.range (2 ^ n)).map fun r => g (asg n r)
end Go.Proofs.Ytbhgahjeocnfcaa
namespace Go.Proofs.Ytbhgahjeocnfcaa
open Go Go.Cx Go.RowKit
set_option linter.unusedVariables false
set_option linter.unusedSimpArgs false
set_option maxHeartbeats 4000000
attribute [local irreducible] J JC thenK blockK loopK roundK drawK retK QW Qt pel List.set Calls
open Go.Maps Go.Lib
set_option maxRecDepth 8000
attribute [local irreducible] JE Br eK0 eK3 brK pc
theorem Order_any {n : Nat} {K : KS} {s : SS} (so : SOk n K s) {order : List Int} {hO hP : Heap} (po : POk K order hO hP) (b : Nat) (w : World) (hw : Holds (stR K b s hO) w) :
    Calls Try.prog 19 #[.pointer (some ⟨b, 0, none⟩)] w (Gives (fun v g => ∃ a' c', v = .slice a' order.length c' ∧ OwT encI 1 3 a' c' order g) w) := by
  have hpl := po.len
  have hn := ord_le order po.ok
  have hso : SlT encI 1 K.ao order (stR K b s hO) := po.ow.sl.sub fun y hy => List.mem_cons_of_mem _ (List.mem_append_right _ hy)
  have rb : ∀ L, Rd (stR K b s hO) L b (stO K s.an s.ns.length s.cn) := fun L => Rd.old List.mem_cons_self
  have q0 : ∀ L, RdH (stR K b s hO) L (stR K b s hO) := fun L => RdH.old fun _ hh => hh
  have cC := fun w hw => clone_any K.ao K.co order (stR K b s hO) hso (by omega) w hw
  rw [← hpl] at cC ⊢
  unfold stO at rb
  refine calls_of_JC (R := (stR K b s hO)) Try.func19 Try.ntmps19 rfl rfl (hw) ?_
  repeat' first
    | (refine J.isJ ?_; first | (first | (refine J.o 11 ?_; refine J.pN hΓ ?_) | (refine J.o 4 ?_; refine J.lR hΓ ?_ (hr := rb _)) | (refine J.fc 63 ?_; refine J.call1 eClone rfl rfl (fun w hw => cC w (hw.rdH (q0 _))) ?_; rintro _ hg ⟨a1, c1, rfl, o1⟩)) | (first | (refine J.o 0 ?_; refine J.ev' hΓ ?_) | refine J.nil ?_ | (refine J.o 4 ?_; first | refine J.lR hΓ ?_) | (refine J.o 3 ?_; first | refine J.ev' hΓ ?_) | (refine J.o 10 ?_; refine J.ev' hΓ ?_) | (refine J.o 11 ?_; refine J.ev' hΓ ?_)))
    | (first | refine JC.seq ?_ | refine JC.region ?_ | refine JC.ret ?_ | refine JC.skip ?_ | refine thenK.nn ?_ | refine JC.condF rfl ?_)
    | (fail)
    | fail
  all_goals first | (exfalso; omega) | skip
  all_goals exact ret1f rfl rfl rfl (fun w1 hw => Gives.of hw ⟨a1, c1, rfl, o1⟩)
end Go.Proofs.Ytbhgahjeocnfcaa
namespace Go.Proofs.Ytbhgahjeocnfcaa
open Go Go.Cx Go.RowKit
set_option linter.unusedVariables false
set_option linter.unusedSimpArgs false
set_option maxHeartbeats 4000000
attribute [local irreducible] J JC thenK blockK loopK roundK drawK retK QW Qt pel List.set Calls
open Go.Maps Go.Lib
set_option maxRecDepth 8000
attribute [local irreducible] JE Br eK0 eK3 brK pc
structure TV where
  a : Option Addr
  c : Nat
  g : BF
instance : Inhabited TV := ⟨⟨none, 0, fun _ => false⟩⟩
theorem own_le {α : Type} {enc : α → List Value} {size : Nat} {e : TypeId} {a : Option Addr} {cap : Nat} {ts : List α} {h : Heap} (o : OwT enc size e a cap ts h) : ts.length ≤ cap := by
  rcases o.row with ⟨_, rfl, rfl, _⟩ | ⟨_, _, _, _, _, h, _⟩
  · exact Nat.le_refl _
  · exact h
end Go.Proofs.Ytbhgahjeocnfcaa
namespace Go.Proofs.Ytbhgahjeocnfcaa
open Go Go.Cx Go.RowKit
set_option linter.unusedVariables false
set_option linter.unusedSimpArgs false
set_option maxHeartbeats 4000000
attribute [local irreducible] J JC thenK blockK loopK roundK drawK retK QW Qt pel List.set Calls
open Go.Maps Go.Lib
set_option maxRecDepth 8000
attribute [local irreducible] JE Br eK0 eK3 brK pc
structure BW where
  a : Option Addr
  c : Nat
  l : List Bool
instance : Inhabited BW := ⟨⟨none, 0, []⟩⟩
end Go.Proofs.Ytbhgahjeocnfcaa
namespace Go.Proofs.Ytbhgahjeocnfcaa
open Go Go.Cx Go.RowKit
set_option linter.unusedVariables false
set_option linter.unusedSimpArgs false
set_option maxHeartbeats 4000000
attribute [local irreducible] J JC thenK blockK loopK roundK drawK retK QW Qt pel List.set Calls
open Go.Maps Go.Lib
set_option maxRecDepth 8000
attribute [local irreducible] JE Br eK0 eK3 brK pc
theorem fn_lt {n : Nat} {ns : List N3} (w : WF n ns) {a b : Nat → Bool} : ∀ (m i : Nat), n - (nd ns i).p ≤ m → i < ns.length → (∀ k, k < n → a k = b k) → fn n ns i a = fn n ns i b
  | m, i, hm, hi, hab => by
    rcases Nat.lt_or_ge i 2 with h2 | h2
    · unfold fn; rw [ev_const _ _ _ h2, ev_const _ _ _ h2]
    · have hp := w.pl i h2 hi
      have hl := w.lp i h2 hi
      have hh := w.hp i h2 hi
      obtain ⟨m', rfl⟩ : ∃ m', m = m' + 1 := ⟨m - 1, by omega⟩
      rw [fn_node w a h2 hi, fn_node w b h2 hi, hab _ hp, fn_lt w m' _ (by omega) (w.ll i h2 hi) hab, fn_lt w m' _ (by omega) (w.hl i h2 hi) hab]
theorem Bel.size {n : Nat} {ns : List N3} (w : WF n ns) {a : Nat} (ha : a < ns.length) {l : List Int} (b : Bel ns a l) {g : BF} (hg : ∀ α, fn n ns a α = g α) : l.length = sizeT n (tabF n g) := by
  have : tab n ns a = tabF n g := by
    unfold tab blk tabF
    exact List.map_congr_left fun r _ => hg _
  rw [← this]
  exact size_eq w ha b.nodup b.mem
end Go.Proofs.Ytbhgahjeocnfcaa
namespace Go.Proofs.Ytbhgahjeocnfcaa
open Go Go.Cx Go.RowKit
set_option linter.unusedVariables false
set_option linter.unusedSimpArgs false
set_option maxHeartbeats 4000000
attribute [local irreducible] J JC thenK blockK loopK roundK drawK retK QW Qt pel List.set Calls
open Go.Maps Go.Lib
set_option maxRecDepth 8000
attribute [local irreducible] JE Br eK0 eK3 brK pc
abbrev VF := (Int → Bool) → Bool
def asgV (l : List Int) (β : Int → Bool) : Nat → Bool := fun k => β (l.getD k default)
def betaV (l : List Int) (α : Nat → Bool) : Int → Bool := fun v => match rk l v 0 with
  | some k => α k
  | none => false
theorem beta_at {l : List Int} (hn : l.Nodup) (α : Nat → Bool) {k : Nat} (hk : k < l.length) : betaV l α (l.getD k default) = α k := by
  unfold betaV; rw [rk_at hn hk]
def Says (ns : List N3) (l : List Int) (y : Nat) (F : VF) : Prop := y < ns.length ∧ ∀ β, fn l.length ns y (asgV l β) = F β
def gF (l : List Int) (F : VF) : BF := fun α => F (betaV l α)
theorem Says.fn {ns : List N3} {l : List Int} (hn : l.Nodup) (w : WF l.length ns) {y : Nat} {F : VF} (h : Says ns l y F) (α : Nat → Bool) : fn l.length ns y α = gF l F α := by
  unfold gF
  rw [← h.2]
  exact fn_lt w _ y (Nat.le_refl _) h.1 fun k hk => (beta_at hn α hk).symm
theorem Says.eq {ns : List N3} {l : List Int} (hn : l.Nodup) (w : WF l.length ns) {y z : Nat} {F : VF} (h : Says ns l y F) (g : Says ns l z F) : y = z :=
  w.eq h.1 g.1 fun α => by rw [h.fn hn w, g.fn hn w]
theorem getD_inj {l : List Int} (hn : l.Nodup) {i k : Nat} (hi : i < l.length) (hk : k < l.length) (e : l.getD i default = l.getD k default) : i = k := by
  have h1 := rk_at hn hi
  rw [e, rk_at hn hk] at h1
  injection h1 with h1
  exact h1.symm
end Go.Proofs.Ytbhgahjeocnfcaa
namespace Go.Proofs.Ytbhgahjeocnfcaa
open Go Go.Cx Go.RowKit
set_option linter.unusedVariables false
set_option linter.unusedSimpArgs false
set_option maxHeartbeats 4000000
attribute [local irreducible] J JC thenK blockK loopK roundK drawK retK QW Qt pel List.set Calls
open Go.Maps Go.Lib
set_option maxRecDepth 8000
attribute [local irreducible] JE Br eK0 eK3 brK pc
theorem mput_keep {κ β : Type} [DecidableEq κ] {m : List (κ × β)} {x z : κ} {y v : β} (h : (z, v) ∈ m) : ∃ v', (z, v') ∈ mput m x y := by
  have : z ∈ (mput m x y).map (·.1) := by
    rw [mput_keys]
    have hz : z ∈ m.map (·.1) := List.mem_map.2 ⟨_, h, rfl⟩
    split
    · exact hz
    · exact List.mem_append_left _ hz
  obtain ⟨p, hp, e⟩ := List.mem_map.1 this
  exact ⟨p.2, by rw [← e]; exact hp⟩
structure ROk (n : Nat) (o l : List Int) (ns ts : List N3) (m : List (Int × Nat)) : Prop where
  at_ : ∀ (a y : Nat), ((a : Int), y) ∈ m → a < ns.length ∧ y < ts.length ∧ ∀ β, fn n ts y (asgV l β) = fn n ns a (asgV o β)
  two : ∀ a : Nat, a < 2 → ∃ y, ((a : Int), y) ∈ m
theorem ROk.ext {n : Nat} {o l : List Int} {ns ts us : List N3} {m : List (Int × Nat)} (w : WF n ts) (h : ROk n o l ns ts m) (e : Ext ts us) : ROk n o l ns us m := ⟨fun a y hm => by
  obtain ⟨h1, h2, h3⟩ := h.at_ a y hm
  exact ⟨h1, Nat.lt_of_lt_of_le h2 e.le, fun β => by rw [fn_ext w e h2, h3]⟩, h.two⟩
theorem ROk.put {n : Nat} {o l : List Int} {ns ts : List N3} {m : List (Int × Nat)} (h : ROk n o l ns ts m) {a y : Nat} (h1 : a < ns.length) (h2 : y < ts.length) (h3 : ∀ β, fn n ts y (asgV l β) = fn n ns a (asgV o β)) : ROk n o l ns ts (mput m (a : Int) y) := ⟨fun b z hm => by
  rcases mput_mem hm with hm | ⟨e1, e2⟩
  · exact h.at_ b z hm
  · obtain rfl : b = a := by omega
    subst e2
    exact ⟨h1, h2, h3⟩, fun b hb => by
  obtain ⟨z, hz⟩ := h.two b hb
  exact mput_keep hz⟩
def fnR (c1 c2 c3 c4 : Nat) : Obj := .cells ⟨[.func (.func 117) ⟨[]⟩ ⟨[.pointer (some ⟨c1, 0, none⟩), .pointer (some ⟨c2, 0, none⟩), .pointer (some ⟨c3, 0, none⟩), .pointer (some ⟨c4, 0, none⟩)]⟩]⟩ 38 (0, 0)
theorem eRebC : Entr Try.prog 117 := Entr.of Try.func117 rfl rfl
theorem eReb2 : Entr Try.prog 62 := Entr.of Try.func62 rfl rfl
theorem stR_of2 {R : Heap} {L : List Heap} {K : KS} {b : Nat} {s : SS} {hO : Heap} (r : RdH R L (stR K b s hO)) {w0 w : World} (hw : H w0 R L w) : Holds (stR K b s hO) w := hw.rdH r
set_option maxHeartbeats 16000000 in
theorem rebC_any {n : Nat} {K Kt : KS} {s : SS} {o l : List Int} {hO hP hO2 hP2 : Heap} (so : SOk n K s) (po : POk K o hO hP) (pt : POk Kt l hO2 hP2) (hKt : Kt.no = n) (h8 : n ≤ 8) (hm : ∀ v, v ∈ o → v ∈ l) (bs bt c1 c2 c3 c4 bd : Nat) : ∀ (d a : Nat) (t : SS) (m : List (Int × Nat)) (hD : Heap), n ≤ (nd s.ns a).p + d → SOk n Kt t → a < s.ns.length → t.ns.length + (2 ^ d - 1) * 256 ≤ 1048576 → MapT Try.prog 3 ekI evI m bd hD → ROk n o l s.ns t.ns m →
    ∀ {w0 w : World} {R : Heap} {L : List Heap}, H w0 R (sF Kt bt t ++ (hO2 :: hP2 :: hD :: L)) w → RdH R L (stR K bs s hO) → Rd R L c1 (mapD bd) → Rd R L c2 (ptrS bs) → Rd R L c3 (ptrS bt) → Rd R L c4 (fnR c1 c2 c3 c4) →
    Calls Try.prog 117 #[.int .i64 (a : Int), .pointer (some ⟨c1, 0, none⟩), .pointer (some ⟨c2, 0, none⟩), .pointer (some ⟨c3, 0, none⟩), .pointer (some ⟨c4, 0, none⟩)] w fun e w' => ∃ v L', e = .returned v ∧ H w0 R L' w' ∧ ∃ t' m' hD' y, v = .tuple #[.int .i64 ((y : Nat) : Int), .int .i64 0] ∧ L' = sF Kt bt t' ++ (hO2 :: hP2 :: hD' :: L) ∧ MapT Try.prog 3 ekI evI m' bd hD' ∧ ROk n o l s.ns t'.ns m' ∧ Adds n Kt t t' ((2 ^ d - 1) * 256) y ∧ ∀ β, fn n t'.ns y (asgV l β) = fn n s.ns a (asgV o β) := by
  have h2n := pow8 h8
  intro d
  induction d using Nat.strongRecOn with
  | ind d ih =>
  intro a t m hD hp st ha hfull mp ro w0 w R L hw rS r1 r2 r3 r4
  have sm := so.sm
  have wf := so.wf
  have hno := so.no
  have hpl := po.len
  have hkey := keyI (a : Int) (by omega)
  have r1' := r1
  have r2' := r2
  have r3' := r3
  have r4' := r4
  unfold mapD at r1'
  unfold ptrS at r2' r3'
  unfold fnR at r4'
  unfold sF at hw
  simp only [List.cons_append, List.nil_append] at hw
  cases hget : mget m (a : Int) with
  | some y =>
    obtain ⟨_, hy, hfy⟩ := ro.at_ a y (mget_mem hget)
    refine calls_in Try.func117 Try.ntmps117 rfl rfl (hw) ?_
    repeat' first
      | (refine J.isJ ?_; first | (first | (refine J.o 4 ?_; refine J.lR hΓ ?_ (hr := r1'.tl.tl.tl.tl.tl.tl.tl)) | (refine J.o 9 ?_; refine J.lk (a := (a : Int)) keyedI ekI_inj mp (by first | exact RdH.hd | exact RdH.hd.tl | exact RdH.hd.tl.tl | exact RdH.hd.tl.tl.tl | exact RdH.hd.tl.tl.tl.tl | exact RdH.hd.tl.tl.tl.tl.tl | exact RdH.hd.tl.tl.tl.tl.tl.tl | exact RdH.hd.tl.tl.tl.tl.tl.tl.tl | exact RdH.old (fun _ hh => hh) | assumption) hkey hΓ ?_; rw [hget])) | (first | (refine J.o 0 ?_; refine J.ev' hΓ ?_) | refine J.nil ?_ | (refine J.o 4 ?_; first | refine J.lR hΓ ?_) | (refine J.o 3 ?_; first | refine J.ev' hΓ ?_) | (refine J.o 10 ?_; refine J.ev' hΓ ?_) | (refine J.o 11 ?_; refine J.ev' hΓ ?_)))
      | (first | refine JC.seq ?_ | refine JC.region ?_ | refine JC.ret ?_ | refine JC.skip ?_ | refine thenK.nn ?_ | refine thenK.r ?_ | refine JC.condT rfl ?_ | refine JC.condF rfl ?_)
      | (fail)
      | fail
    all_goals first | (exfalso; omega) | skip
    refine ret2f rfl rfl rfl rfl rfl (fun w1 hw => ⟨_, _, rfl, hw, t, m, hD, y, rfl, rfl, mp, ro, ⟨st, Ext.refl _, by omega, hy⟩, hfy⟩)
  | none =>
    have h2 : 2 ≤ a := by
      rcases Nat.lt_or_ge a 2 with g | g
      · obtain ⟨y, hy⟩ := ro.two a g
        exact absurd hy (mget_out hget y)
      · exact g
    have hpn := wf.pl a h2 ha
    have hll := wf.ll a h2 ha
    have hhl := wf.hl a h2 ha
    have hlp := wf.lp a h2 ha
    have hhp := wf.hp a h2 ha
    have hvo : o.getD (nd s.ns a).p default ∈ o := mem_g o _ (by omega)
    obtain ⟨k, hk⟩ : ∃ k, rk l (o.getD (nd s.ns a).p default) 0 = some k := by
      cases h : rk l (o.getD (nd s.ns a).p default) 0 with
      | some k => exact ⟨k, rfl⟩
      | none => exact absurd (hm _ hvo) (rk_none.1 h)
    have hv := po.ok.1 _ hvo
    have hd2 : 2 ^ d = 2 ^ (d - 1) + 2 ^ (d - 1) := by rw [← Nat.mul_two, ← Nat.pow_succ, show (d - 1).succ = d by omega]
    have hd0 : 0 < 2 ^ (d - 1) := Nat.pow_pos (by decide)
    have cP := fun w hw => Parts_node so po bs a h2 ha w hw
    refine calls_in Try.func117 Try.ntmps117 rfl rfl (hw) ?_
    repeat' first
      | (refine J.isJ ?_; first | (first | (refine J.o 4 ?_; first | refine J.lR hΓ ?_ (hr := r1'.tl.tl.tl.tl.tl.tl.tl) | refine J.lR hΓ ?_ (hr := r2'.tl.tl.tl.tl.tl.tl.tl) | refine J.lR hΓ ?_ (hr := r3'.tl.tl.tl.tl.tl.tl.tl) | refine J.lR hΓ ?_ (hr := r4'.tl.tl.tl.tl.tl.tl.tl)) | (refine J.o 9 ?_; refine J.lk (a := (a : Int)) keyedI ekI_inj mp (by first | exact RdH.hd | exact RdH.hd.tl | exact RdH.hd.tl.tl | exact RdH.hd.tl.tl.tl | exact RdH.hd.tl.tl.tl.tl | exact RdH.hd.tl.tl.tl.tl.tl | exact RdH.hd.tl.tl.tl.tl.tl.tl | exact RdH.hd.tl.tl.tl.tl.tl.tl.tl | exact RdH.old (fun _ hh => hh) | assumption) hkey hΓ ?_; rw [hget]) | (refine J.fc 66 ?_; refine J.call0 eParts rfl rfl (fun w hw => cP w (stR_of2 rS.tl.tl.tl.tl.tl.tl.tl hw)) ?_) | (refine J.fc 26 ?_; refine J.callx eVarS rfl rfl (fun w hw => Var_any st pt _ (by omega) k hk (by omega) (L := hD :: L) hw) ?_; rintro _ _ ⟨t1, x1, rfl, rfl, ad1, f1⟩; unfold sF; simp only [List.cons_append, List.nil_append])) | (first | (refine J.o 0 ?_; refine J.ev' hΓ ?_) | refine J.nil ?_ | (refine J.o 4 ?_; first | refine J.lR hΓ ?_) | (refine J.o 3 ?_; first | refine J.ev' hΓ ?_) | (refine J.o 10 ?_; refine J.ev' hΓ ?_) | (refine J.o 11 ?_; refine J.ev' hΓ ?_)))
      | (first | refine JC.seq ?_ | refine JC.region ?_ | refine JC.ret ?_ | refine JC.skip ?_ | refine thenK.nn ?_ | refine thenK.r ?_ | refine JC.condT rfl ?_ | refine JC.condF rfl ?_)
      | (fail)
      | fail
    all_goals first | (exfalso; omega) | skip
    have l1 := ad1.le
    refine J.isJ ?_
    refine J.o 9 ?_
    refine J.callvx eRebC rfl rfl rfl (fun w hw => ih (d - 1) (by omega) (nd s.ns a).l t1 m hD (by omega) ad1.ok hll (by omega) mp (ro.ext st.wf ad1.ext) (L := L) hw rS r1 r2 r3 r4) ?_
    rintro _ _ ⟨t2, m2, hD2, y2, rfl, rfl, mp2, ro2, ad2, f2⟩
    have l2 := ad2.le
    unfold sF
    simp only [List.cons_append, List.nil_append]
    repeat' first
      | (refine J.isJ ?_; first | ((refine J.o 4 ?_; refine J.lR hΓ ?_ (hr := r4'.tl.tl.tl.tl.tl.tl.tl))) | (first | (refine J.o 0 ?_; refine J.ev' hΓ ?_) | refine J.nil ?_ | (refine J.o 4 ?_; first | refine J.lR hΓ ?_) | (refine J.o 3 ?_; first | refine J.ev' hΓ ?_) | (refine J.o 10 ?_; refine J.ev' hΓ ?_) | (refine J.o 11 ?_; refine J.ev' hΓ ?_)))
      | (first | refine JC.seq ?_ | refine JC.region ?_ | refine JC.ret ?_ | refine JC.skip ?_ | refine thenK.nn ?_ | refine thenK.r ?_ | refine JC.condT rfl ?_ | refine JC.condF rfl ?_)
      | (fail)
      | fail
    all_goals first | (exfalso; omega) | skip
    refine J.isJ ?_
    refine J.o 9 ?_
    refine J.callvx eRebC rfl rfl rfl (fun w hw => ih (d - 1) (by omega) (nd s.ns a).h t2 m2 hD2 (by omega) ad2.ok hhl (by omega) mp2 ro2 (L := L) hw rS r1 r2 r3 r4) ?_
    rintro _ _ ⟨t3, m3, hD3, y3, rfl, rfl, mp3, ro3, ad3, f3⟩
    have l3 := ad3.le
    unfold sF
    simp only [List.cons_append, List.nil_append]
    repeat' first
      | (refine J.isJ ?_; first | (first | (refine J.o 4 ?_; first | refine J.lR hΓ ?_ (hr := r3'.tl.tl.tl.tl.tl.tl.tl)) | (refine J.fc 118 ?_; refine J.callx eIf rfl rfl (fun w hw => If_any ad3.ok x1 (ad3.old (ad2.old ad1.lt)) y3 ad3.lt y2 (ad3.old ad2.lt) (by omega) (L := hO2 :: hP2 :: hD3 :: L) hw) ?_; rintro _ _ ⟨t4, y4, rfl, rfl, ad4, f4⟩; unfold sF; simp only [List.cons_append, List.nil_append]) | (refine J.o 4 ?_; refine J.lR hΓ ?_ (hr := r1'.tl.tl.tl.tl.tl.tl.tl)) | (refine J.o 9 ?_; refine J.perm (bring_perm 6 _) ?_; refine J.mup (a := (a : Int)) (ev := evI) y4 keyedI ekI_inj mp3 hkey hΓ (fun h4 mt4 => ?_))) | (first | (refine J.o 0 ?_; refine J.ev' hΓ ?_) | refine J.nil ?_ | (refine J.o 4 ?_; first | refine J.lR hΓ ?_) | (refine J.o 3 ?_; first | refine J.ev' hΓ ?_) | (refine J.o 10 ?_; refine J.ev' hΓ ?_) | (refine J.o 11 ?_; refine J.ev' hΓ ?_)))
      | (first | refine JC.seq ?_ | refine JC.region ?_ | refine JC.ret ?_ | refine JC.skip ?_ | refine thenK.nn ?_ | refine thenK.r ?_ | refine JC.condT rfl ?_ | refine JC.condF rfl ?_)
      | (fail)
      | fail
    all_goals first | (exfalso; omega) | skip
    have l4 := ad4.le
    have e12 := ad1.ext.trans ad2.ext
    have e23 := ad2.ext.trans ad3.ext
    have hff : ∀ β, fn n t4.ns y4 (asgV l β) = fn n s.ns a (asgV o β) := fun β => by
      have hβ : asgV l β k = β (o.getD (nd s.ns a).p default) := by
        unfold asgV
        have := (rk_some hk).2.2
        rw [Nat.sub_zero] at this
        rw [this]
      have h1 := f1 (asgV l β)
      dsimp only at h1
      rw [hβ] at h1
      rw [f4]
      dsimp only
      rw [fn_ext ad1.ok.wf e23 ad1.lt, h1, f3, fn_ext ad2.ok.wf ad3.ext ad2.lt, f2, fn_node wf _ h2 ha]
      rfl
    have ro4 := (ro3.ext ad3.ok.wf ad4.ext).put ha ad4.lt hff
    refine ret2f rfl rfl rfl rfl rfl (fun w1 hw => ⟨_, _, rfl, H.sel (l := [_, _, _, _, _, _, _]) (M := L) hw [1, 2, 3, 4, 5, 6, 0], t4, _, h4, y4, rfl, rfl, mt4, ro4, (((ad1.trans ad2).trans ad3).trans ad4).mono (by omega), hff⟩)
end Go.Proofs.Ytbhgahjeocnfcaa
namespace Go.Proofs.Ytbhgahjeocnfcaa
open Go Go.Cx Go.RowKit
set_option linter.unusedVariables false
set_option linter.unusedSimpArgs false
set_option maxHeartbeats 4000000
attribute [local irreducible] J JC thenK blockK loopK roundK drawK retK QW Qt pel List.set Calls
open Go.Maps Go.Lib
set_option maxRecDepth 8000
attribute [local irreducible] JE Br eK0 eK3 brK pc
structure Stv (F : VF) (l : List Int) (K : KS) (s : SS) (y : Nat) (hO hP : Heap) : Prop where
  so : SOk l.length K s
  po : POk K l hO hP
  sy : Says s.ns l y F
theorem Stv.ho {F : VF} {l : List Int} {K : KS} {s : SS} {y : Nat} {hO hP : Heap} (st : Stv F l K s y hO hP) : okOrd l := st.po.ok
theorem ROk.start {n : Nat} {o l : List Int} {ns ts : List N3} (w : WF n ns) (w2 : WF n ts) : ROk n o l ns ts [((0 : Int), 0), ((1 : Int), 1)] := by
  have h1 := w.two
  have h2 := w2.two
  refine ⟨fun a y hm => ?_, fun a ha => ?_⟩
  · rcases List.mem_cons.1 hm with e | hm
    · obtain ⟨e1, e2⟩ := Prod.mk.inj e
      obtain rfl : a = 0 := by omega
      subst e2
      exact ⟨by omega, by omega, fun β => by rw [fn_0 w, fn_0 w2]⟩
    · obtain ⟨e1, e2⟩ := Prod.mk.inj (List.mem_singleton.1 hm)
      obtain rfl : a = 1 := by omega
      subst e2
      exact ⟨by omega, by omega, fun β => by rw [fn_1 w, fn_1 w2]⟩
  · rcases (by omega : a = 0 ∨ a = 1) with rfl | rfl
    · exact ⟨0, List.mem_cons_self⟩
    · exact ⟨1, List.mem_cons_of_mem _ List.mem_cons_self⟩
def RebQ (F : VF) (l : List Int) (L : List Heap) (v : Value) (L' : List Heap) : Prop := ∃ bt Kt t y hO2 hP2, v = .tuple #[.pointer (some ⟨bt, 0, none⟩), .int .i64 ((y : Nat) : Int), .int .i64 0] ∧ L' = sF Kt bt t ++ (hO2 :: hP2 :: L) ∧ Stv F l Kt t y hO2 hP2
set_option maxHeartbeats 16000000 in
theorem rebuilt_any {F : VF} {o : List Int} {K : KS} {s : SS} {a : Nat} {hO hP : Heap} (sv : Stv F o K s a hO hP) (h8 : o.length ≤ 8) (l : List Int) (hlen : l.length = o.length) (ho : okOrd l) (hm : ∀ v, v ∈ o → v ∈ l) (al : Option Addr) (cl : Nat) (hl : Heap) (hs : SlT encI 1 al l hl) {w0 w : World} {R : Heap} {L : List Heap} {bs : Nat} (rS : RdH R L (stR K bs s hO)) (rl : RdH R L hl) (hw : H w0 R L w) :
    Calls Try.prog 62 #[.pointer (some ⟨bs, 0, none⟩), .int .i64 (a : Int), .slice al l.length cl] w fun e w' => ∃ v L', e = .returned v ∧ H w0 R L' w' ∧ RebQ F l L v L' := by
  have h2n : 2 ^ o.length ≤ 2 ^ 8 := Nat.pow_le_pow_right (by decide) h8
  have so := sv.so
  have ha := sv.sy.1
  refine calls_in Try.func62 Try.ntmps62 rfl rfl (hw) ?_
  refine JC.seq ?_
  refine JC.region ?_
  refine J.isJ ?_
  refine J.o 6 ?_
  refine J.bx (fun c2 => ?_)
  repeat' first
    | (refine J.isJ ?_; first | (first | (refine J.o 7 ?_; first | refine J.al (t := 30) hΓ (fun c3 => ?_) | refine J.al (t := 40) hΓ (fun c1 => ?_) | refine J.al (t := 38) hΓ (fun c4 => ?_)) | (refine J.o 14 ?_; refine J.mfV [.pointer (some ⟨c1, 0, none⟩), .pointer (some ⟨c2, 0, none⟩), .pointer (some ⟨c3, 0, none⟩), .pointer (some ⟨c4, 0, none⟩)] hΓ ?_) | (refine J.fc 25 ?_; refine J.callx eNew rfl rfl (fun w hw => new_any l al cl hl hs ho rl.tl hw) ?_; rintro _ _ ⟨bt, Kt, t, hO2, hP2, rfl, rfl, st, hns, pt⟩; have hlt : t.ns.length = 2 := (by rw [hns]; rfl); unfold sF; simp only [List.cons_append, List.nil_append]) | (refine J.o 9 ?_; first | refine J.mkm (fun bd => ?_) | refine J.ins (ev := evI) 0 keyedI ekI_inj (MapT.nil _) (keyI 0 (by omega)) hΓ (fun h1 mp1 => ?_) | refine J.ins (ev := evI) 1 keyedI ekI_inj mp1 (keyI 1 (by omega)) hΓ (fun hD mp => ?_))) | (first | (refine J.o 0 ?_; refine J.ev' hΓ ?_) | refine J.nil ?_ | (refine J.o 4 ?_; first | refine J.lR hΓ ?_) | (refine J.o 3 ?_; first | refine J.ev' hΓ ?_) | (refine J.o 5 ?_; first | refine J.t0 hΓ ?_) | (refine J.o 6 ?_; refine J.bx (fun _ => ?_)) | (refine J.o 7 ?_; refine J.al hΓ (fun _ => ?_)) | (refine J.o 10 ?_; refine J.ev' hΓ ?_) | (refine J.o 11 ?_; refine J.ev' hΓ ?_)))
    | (first | refine JC.seq ?_ | refine JC.region ?_ | refine JC.ret ?_ | refine JC.skip ?_ | refine thenK.nn ?_ | refine JC.condF rfl ?_)
    | (fail)
    | fail
  all_goals first | (exfalso; omega) | skip
  rw [hlen] at st
  have hin : ∀ β, fn o.length s.ns a (asgV o β) = F β := sv.sy.2
  have hpw : 0 < 2 ^ o.length := Nat.pow_pos (by decide)
  refine J.isJ ?_
  refine J.o 9 ?_
  refine J.callvx eRebC rfl rfl rfl (fun w hw => rebC_any so sv.po pt st.no h8 hm bs bt c1 c2 c3 c4 bd o.length a t _ hD (by omega) st ha (by omega) mp (ROk.start so.wf st.wf) (L := [(c4, fnR c1 c2 c3 c4)] :: [(c1, mapD bd)] :: [(c3, ptrS bt)] :: [(c2, ptrS bs)] :: L) (H.sel (l := [_, _, _, _, _, _, _, _, _, _, _]) (M := L) hw [4, 5, 6, 7, 8, 9, 2, 0, 1, 3, 10]) rS.tl.tl.tl.tl Rd.hd.tl Rd.hd.tl.tl.tl Rd.hd.tl.tl Rd.hd) ?_
  rintro _ _ ⟨t2, m2, hD2, y2, rfl, rfl, mp2, ro2, ad2, f2⟩
  unfold sF
  simp only [List.cons_append, List.nil_append]
  repeat' first
    | (refine J.isJ ?_; first | (first | (refine J.o 4 ?_; refine J.lR hΓ ?_ (hr := Rd.hd.tl.tl.tl.tl.tl.tl.tl.tl.tl))) | (first | (refine J.o 0 ?_; refine J.ev' hΓ ?_) | refine J.nil ?_ | (refine J.o 4 ?_; first | refine J.lR hΓ ?_) | (refine J.o 3 ?_; first | refine J.ev' hΓ ?_) | (refine J.o 5 ?_; first | refine J.t0 hΓ ?_) | (refine J.o 6 ?_; refine J.bx (fun _ => ?_)) | (refine J.o 7 ?_; refine J.al hΓ (fun _ => ?_)) | (refine J.o 10 ?_; refine J.ev' hΓ ?_) | (refine J.o 11 ?_; refine J.ev' hΓ ?_)))
    | (first | refine JC.seq ?_ | refine JC.region ?_ | refine JC.ret ?_ | refine JC.skip ?_ | refine thenK.nn ?_ | refine JC.condF rfl ?_)
    | (fail)
    | fail
  all_goals first | (exfalso; omega) | skip
  refine ret3f rfl rfl rfl rfl rfl rfl rfl (fun w1 hw => ⟨_, _, rfl, H.sel (l := [_, _, _, _, _, _, _, _, _, _, _]) (M := L) hw [0, 1, 2, 3, 4, 5], bt, Kt, t2, y2, hO2, hP2, rfl, rfl, ?_⟩)
  have ok2 := ad2.ok
  have lt2 := ad2.lt
  rw [← hlen] at ok2 f2
  exact ⟨ok2, pt, lt2, fun β => by rw [f2, hlen]; exact hin β⟩
theorem stR_b {R : Heap} {L : List Heap} {K : KS} {b : Nat} {s : SS} {hO : Heap} (r : RdH R L (stR K b s hO)) : Rd R L b (stO K s.an s.ns.length s.cn) := r _ List.mem_cons_self
theorem stR_N {R : Heap} {L : List Heap} {K : KS} {b : Nat} {s : SS} {hO : Heap} (r : RdH R L (stR K b s hO)) : RdH R L s.hN := fun x hx => r x (List.mem_cons_of_mem _ (List.mem_append_left _ hx))
theorem stR_hd {R : Heap} {K : KS} {b : Nat} {s : SS} {hO hP : Heap} (M : List Heap) : RdH R (sF K b s ++ (hO :: hP :: M)) (stR K b s hO) := fun x hx => by
  rcases List.mem_cons.1 hx with rfl | hx
  · exact (Rd.hd : Rd R (sF K b s ++ (hO :: hP :: M)) b _)
  · rcases List.mem_append.1 hx with h | h
    · exact (RdH.hd.tl : RdH R (sF K b s ++ (hO :: hP :: M)) s.hN) x h
    · exact (RdH.hd.tl.tl.tl.tl : RdH R (sF K b s ++ (hO :: hP :: M)) hO) x h
theorem stR_tl {R : Heap} {L : List Heap} {h : Heap} (r : RdH R L h) (K : KS) (b : Nat) (s : SS) (hO hP : Heap) : RdH R (sF K b s ++ (hO :: hP :: L)) h := RdH.app (sF K b s) r.tl.tl
end Go.Proofs.Ytbhgahjeocnfcaa
namespace Go.Proofs.Ytbhgahjeocnfcaa
open Go Go.Cx Go.RowKit
set_option linter.unusedVariables false
set_option linter.unusedSimpArgs false
set_option maxHeartbeats 4000000
attribute [local irreducible] J JC thenK blockK loopK roundK drawK retK QW Qt pel List.set Calls
open Go.Maps Go.Lib
set_option maxRecDepth 8000
attribute [local irreducible] JE Br eK0 eK3 brK pc
def swp (o : List Int) (p : Nat) : List Int := (o.set p (o.getD (p + 1) default)).set (p + 1) (o.getD p default)
theorem swp_len (o : List Int) (p : Nat) : (swp o p).length = o.length := by simp [swp]
theorem swp_get (o : List Int) {p : Nat} (hp : p + 1 < o.length) (i : Nat) : (swp o p).getD i default = if i = p then o.getD (p + 1) default else if i = p + 1 then o.getD p default else o.getD i default := by
  unfold swp
  rw [List.getD_eq_getElem?_getD, List.getElem?_set, List.getElem?_set, List.length_set]
  by_cases h1 : i = p
  · rw [if_pos h1, h1, if_neg (by omega), if_pos rfl, if_pos (by omega)]; rfl
  · rw [if_neg h1]
    by_cases h2 : i = p + 1
    · rw [if_pos h2, if_pos h2.symm, if_pos (by omega)]; rfl
    · rw [if_neg h2, if_neg (fun g => h2 g.symm), if_neg (fun g => h1 g.symm), List.getD_eq_getElem?_getD]
theorem swp_perm (o : List Int) {p : Nat} (hp : p + 1 < o.length) : (swp o p).Perm o := by
  have e1 : o = o.take p ++ o.getD p default :: o.getD (p + 1) default :: o.drop (p + 2) := by
    have h1 := (List.take_append_drop p o).symm
    have h2 := drop_g o p (by omega)
    have h3 := drop_g o (p + 1) hp
    rw [h2, h3] at h1
    exact h1
  have e2 : swp o p = o.take p ++ o.getD (p + 1) default :: o.getD p default :: o.drop (p + 2) := by
    refine List.ext_getElem (by rw [swp_len]; conv => lhs; rw [e1]
                                simp) fun i h1 h2 => ?_
    have hg : ∀ (l : List Int) (h : i < l.length), l[i] = l.getD i default := fun l h => by rw [List.getD_eq_getElem?_getD, List.getElem?_eq_getElem h]; rfl
    rw [hg _ h1, hg _ h2, swp_get o hp]
    rw [swp_len] at h1
    have ht : (o.take p).length = p := by rw [List.length_take]; omega
    rcases Nat.lt_trichotomy i p with g | g | g
    · rw [if_neg (by omega), if_neg (by omega), List.getD_eq_getElem?_getD, List.getD_eq_getElem?_getD, List.getElem?_append_left (by omega), List.getElem?_take_of_lt g]
    · subst g
      rw [if_pos rfl, List.getD_eq_getElem?_getD (l := _ ++ _), List.getElem?_append_right (by omega), ht, Nat.sub_self]; rfl
    · rw [if_neg (by omega), List.getD_eq_getElem?_getD (l := _ ++ _), List.getElem?_append_right (by omega), ht]
      by_cases g2 : i = p + 1
      · rw [if_pos g2, g2, show p + 1 - p = 1 by omega]; rfl
      · obtain ⟨j, hj⟩ : ∃ j, i - p = j + 2 := ⟨i - p - 2, by omega⟩
        rw [if_neg g2, hj, List.getElem?_cons_succ, List.getElem?_cons_succ, List.getElem?_drop, List.getD_eq_getElem?_getD, show p + 2 + j = i by omega]
  rw [e2]
  conv => rhs; rw [e1]
  exact List.Perm.append_left _ (List.Perm.swap _ _ _)
theorem swp_ord {o : List Int} (h : okOrd o) {p : Nat} (hp : p + 1 < o.length) : okOrd (swp o p) :=
  ⟨fun v hv => h.1 v ((swp_perm o hp).mem_iff.1 hv), (swp_perm o hp).nodup_iff.2 h.2⟩
theorem eSwap : Entr Try.prog 17 := Entr.of Try.func17 rfl rfl
theorem eChecked : Entr Try.prog 61 := Entr.of Try.func61 rfl rfl
theorem checked_any {n : Nat} {K : KS} {s : SS} (so : SOk n K s) (b a : Nat) (ha : a < s.ns.length) {hO : Heap} {w0 w : World} {R : Heap} {L : List Heap} (rS : RdH R L (stR K b s hO)) (hw : H w0 R L w) :
    Calls Try.prog 61 #[.pointer (some ⟨b, 0, none⟩), .int .i64 (a : Int)] w fun e w' => ∃ v L', e = .returned v ∧ H w0 R L' w' ∧ v = .int .i64 0 ∧ L' = L := by
  refine calls_in Try.func61 Try.ntmps61 rfl rfl (hw) ?_
  repeat' first
    | (refine J.isJ ?_; first | (first | (refine J.o 11 ?_; refine J.pN hΓ ?_) | (refine J.fc 20 ?_; refine J.callx eSize rfl rfl (fun w hw => Size_any so b a ha (stR_b rS) (stR_N rS) hw) ?_; rintro _ _ ⟨l, rfl, rfl, bel⟩)) | (first | (refine J.o 0 ?_; refine J.ev' hΓ ?_) | refine J.nil ?_ | (refine J.o 3 ?_; first | refine J.ev' hΓ ?_) | (refine J.o 10 ?_; refine J.ev' hΓ ?_) | (refine J.o 11 ?_; refine J.ev' hΓ ?_)))
    | (first | refine JC.seq ?_ | refine JC.region ?_ | refine JC.ret ?_ | refine JC.skip ?_ | refine thenK.nn ?_ | refine JC.condF rfl ?_)
    | (fail)
    | fail
  all_goals first | (exfalso; omega) | skip
  refine ret1f rfl rfl rfl (fun w1 hw => ⟨_, _, rfl, hw, rfl, rfl⟩)
theorem rebuilt_n {F : VF} {o : List Int} {K : KS} {s : SS} {a : Nat} {hO hP : Heap} (sv : Stv F o K s a hO hP) (h8 : o.length ≤ 8) (l : List Int) (nl : Nat) (hnl : l.length = nl) (hlen : l.length = o.length) (ho : okOrd l) (hm : ∀ v, v ∈ o → v ∈ l) (al : Option Addr) (cl : Nat) (hl : Heap) (hs : SlT encI 1 al l hl) {w0 w : World} {R : Heap} {L : List Heap} {bs : Nat} (rS : RdH R L (stR K bs s hO)) (rl : RdH R L hl) (hw : H w0 R L w) :
    Calls Try.prog 62 #[.pointer (some ⟨bs, 0, none⟩), .int .i64 (a : Int), .slice al nl cl] w fun e w' => ∃ v L', e = .returned v ∧ H w0 R L' w' ∧ RebQ F l L v L' := by
  subst hnl
  exact rebuilt_any sv h8 l hlen ho hm al cl hl hs rS rl hw
theorem H.drop6 {K : KS} {b : Nat} {s : SS} {hO hP h : Heap} {L : List Heap} {w0 w : World} {R : Heap} (hw : H w0 R (sF K b s ++ (hO :: hP :: h :: L)) w) : H w0 R (sF K b s ++ (hO :: hP :: L)) w := H.sel (l := [_, _, _, _, _, _, _]) (M := L) hw [0, 1, 2, 3, 4, 5]
theorem Swap_any {F : VF} {o : List Int} {K : KS} {s : SS} {a : Nat} {hO hP : Heap} (sv : Stv F o K s a hO hP) (h8 : o.length ≤ 8) (p : Nat) (hp : p + 1 < o.length) {w0 w : World} {R : Heap} {L : List Heap} {bs : Nat} (rS : RdH R L (stR K bs s hO)) (hw : H w0 R L w) :
    Calls Try.prog 17 #[.pointer (some ⟨bs, 0, none⟩), .int .i64 (a : Int), .int .i64 (p : Int)] w fun e w' => ∃ v L', e = .returned v ∧ H w0 R L' w' ∧ RebQ F (swp o p) L v L' := by
  have so := sv.so
  have ha := sv.sy.1
  have hsl : (swp o p).length = o.length := swp_len o p
  have cO := fun w hw => Order_any so sv.po bs w hw
  have hg1 : (o.set p (o.getD (p + 1) default)).length = o.length := by simp
  refine calls_in Try.func17 Try.ntmps17 rfl rfl (hw) ?_
  repeat' first
    | (refine J.isJ ?_; first | (first | (refine J.fc 61 ?_; refine J.callx eChecked rfl rfl (fun w hw => checked_any so bs a ha rS hw) ?_; rintro _ _ ⟨rfl, rfl⟩) | (refine J.fc 19 ?_; refine J.call1 eOrder rfl rfl (fun w hw => cO w (stR_of2 rS hw)) ?_; rintro _ ho ⟨ao, co, rfl, oo⟩) | (refine J.o 3 ?_; refine J.iJ hΓ ?_ (hs := oo.sl)) | (refine J.o 4 ?_; refine J.lT default hΓ ?_ (hs := oo.sl) (hr := RdH.hd)) | (refine J.o 5 ?_; first | refine J.tT (enc := encI) (o.getD (p + 1) default) default hΓ (fun h5 o5 => ?_) (ho := oo))) | (first | (refine J.o 0 ?_; refine J.ev' hΓ ?_) | refine J.nil ?_ | (refine J.o 4 ?_; first | refine J.lT default hΓ ?_) | (refine J.o 3 ?_; first | refine J.iJ hΓ ?_ | refine J.ev' hΓ ?_) | (refine J.o 1 ?_; first | refine J.ad ?_ | refine J.sb ?_) | (refine J.o 5 ?_; first | refine J.tT _ default hΓ (fun _ _ => ?_)) | (refine J.o 10 ?_; refine J.ev' hΓ ?_) | (refine J.o 11 ?_; refine J.ev' hΓ ?_)))
    | (first | refine JC.seq ?_ | refine JC.region ?_ | refine JC.ret ?_ | refine JC.skip ?_ | refine thenK.nn ?_ | refine JC.condF rfl ?_ | (refine JC.cond rfl (fun hc => ?_) (fun hc => ?_) <;> ((try simp only [decide_eq_true_eq, decide_eq_false_iff_not, beq_iff_eq, beq_eq_false_iff_ne, bne_iff_ne, bne_eq_false_iff_eq, Bool.not_eq_true', Bool.not_eq_false', Bool.not_eq_true, Bool.not_eq_false] at hc) <;> first | (first | (exact absurd rfl hc) | (exfalso; omega) | (exact absurd (hc.symm.trans (by assumption : _ = false)) (by decide)) | (exact absurd (hc.symm.trans (by assumption : _ = true)) (by decide))) | skip)) | refine drawK.nn ?_)
    | ((refine JC.drawO [(0,0),(0,1),(0,2),(0,3),(0,4),(0,5),(0,6),(0,7),(0,8),(1,9),(0,10),(0,11),(0,12),(1,13),(0,14),(2,15),(0,16),(2,17)] (by decide +kernel) (by decide +kernel) ?_))
    | fail
  all_goals first | (exfalso; omega) | skip
  rename_i h6 o6
  have hq : ((p : Int) + 1).toNat = p + 1 := by omega
  rw [hq] at o6
  have o7 : OwT encI 1 3 ao co (swp o p) h6 := o6
  repeat' first
    | (refine J.isJ ?_; first | ((refine J.fc 62 ?_; refine J.callx eReb2 rfl rfl (fun w hw => rebuilt_n sv h8 (swp o p) o.length hsl hsl (swp_ord sv.ho hp) (fun v hv => (swp_perm o hp).mem_iff.2 hv) ao co h6 o7.sl rS.tl RdH.hd hw) ?_; rintro _ _ ⟨bt, Kt, t, y, hO2, hP2, rfl, rfl, sv2⟩)) | (first | (refine J.o 0 ?_; refine J.ev' hΓ ?_) | refine J.nil ?_ | (refine J.o 4 ?_; first | refine J.lT default hΓ ?_) | (refine J.o 3 ?_; first | refine J.iJ hΓ ?_ | refine J.ev' hΓ ?_) | (refine J.o 1 ?_; first | refine J.ad ?_ | refine J.sb ?_) | (refine J.o 5 ?_; first | refine J.tT _ default hΓ (fun _ _ => ?_)) | (refine J.o 10 ?_; refine J.ev' hΓ ?_) | (refine J.o 11 ?_; refine J.ev' hΓ ?_)))
    | (first | refine JC.seq ?_ | refine JC.region ?_ | refine JC.ret ?_ | refine JC.skip ?_ | refine thenK.nn ?_ | refine JC.condF rfl ?_ | (refine JC.cond rfl (fun hc => ?_) (fun hc => ?_) <;> ((try simp only [decide_eq_true_eq, decide_eq_false_iff_not, beq_iff_eq, beq_eq_false_iff_ne, bne_iff_ne, bne_eq_false_iff_eq, Bool.not_eq_true', Bool.not_eq_false', Bool.not_eq_true, Bool.not_eq_false] at hc) <;> first | (first | (exact absurd rfl hc) | (exfalso; omega) | (exact absurd (hc.symm.trans (by assumption : _ = false)) (by decide)) | (exact absurd (hc.symm.trans (by assumption : _ = true)) (by decide))) | skip)) | refine drawK.nn ?_)
    | (fail)
    | fail
  all_goals first | (exfalso; omega) | skip
  refine ret3f rfl rfl rfl rfl rfl rfl rfl (fun w1 hw => ⟨_, _, rfl, H.drop6 hw, bt, Kt, t, y, hO2, hP2, rfl, rfl, sv2⟩)
theorem Swap_out {F : VF} {o : List Int} {K : KS} {s : SS} {a : Nat} {hO hP : Heap} (sv : Stv F o K s a hO hP) (p : Int) (hp : p < 0 ∨ (o.length : Int) - 1 ≤ p) {w0 w : World} {R : Heap} {L : List Heap} {bs : Nat} (rS : RdH R L (stR K bs s hO)) (hw : H w0 R L w) :
    Calls Try.prog 17 #[.pointer (some ⟨bs, 0, none⟩), .int .i64 (a : Int), .int .i64 p] w fun e w' => ∃ v L', e = .returned v ∧ H w0 R L' w' ∧ v = .tuple #[.pointer none, .int .i64 0, .int .i64 1] ∧ L' = L := by
  have so := sv.so
  have ha := sv.sy.1
  have n8 := so.n8
  have cO := fun w hw => Order_any so sv.po bs w hw
  refine calls_in Try.func17 Try.ntmps17 rfl rfl (hw) ?_
  repeat' first
    | (refine J.isJ ?_; first | (first | (refine J.fc 61 ?_; refine J.callx eChecked rfl rfl (fun w hw => checked_any so bs a ha rS hw) ?_; rintro _ _ ⟨rfl, rfl⟩) | (refine J.fc 19 ?_; refine J.call1 eOrder rfl rfl (fun w hw => cO w (stR_of2 rS hw)) ?_; rintro _ ho ⟨ao, co, rfl, oo⟩)) | (first | (refine J.o 0 ?_; refine J.ev' hΓ ?_) | refine J.nil ?_ | refine J.kd ?_ | (refine J.o 3 ?_; first | refine J.ev' hΓ ?_) | (refine J.o 1 ?_; first | refine J.sb ?_) | (refine J.o 10 ?_; refine J.ev' hΓ ?_) | (refine J.o 11 ?_; refine J.ev' hΓ ?_)) | ((fail_if_success refine J.wt ?_); refine J.gc rfl rfl (fun hc => ?_) (fun hc => ?_) <;> ((try simp only [decide_eq_true_eq, decide_eq_false_iff_not, beq_iff_eq, beq_eq_false_iff_ne, bne_iff_ne, bne_eq_false_iff_eq, Bool.not_eq_true', Bool.not_eq_false', Bool.not_eq_true, Bool.not_eq_false] at hc) <;> first | (first | (exact absurd rfl hc) | (exfalso; omega) | (exact absurd (hc.symm.trans (by assumption : _ = false)) (by decide)) | (exact absurd (hc.symm.trans (by assumption : _ = true)) (by decide))) | skip)))
    | (first | refine JC.seq ?_ | refine JC.region ?_ | refine JC.ret ?_ | refine JC.skip ?_ | refine thenK.nn ?_ | refine thenK.r ?_ | refine JC.condT rfl ?_ | refine JC.condF rfl ?_ | (refine JC.cond rfl (fun hc => ?_) (fun hc => ?_) <;> ((try simp only [decide_eq_true_eq, decide_eq_false_iff_not, beq_iff_eq, beq_eq_false_iff_ne, bne_iff_ne, bne_eq_false_iff_eq, Bool.not_eq_true', Bool.not_eq_false', Bool.not_eq_true, Bool.not_eq_false] at hc) <;> first | (first | (exact absurd rfl hc) | (exfalso; omega) | (exact absurd (hc.symm.trans (by assumption : _ = false)) (by decide)) | (exact absurd (hc.symm.trans (by assumption : _ = true)) (by decide))) | skip)))
    | (fail)
    | fail
  all_goals first | (exfalso; omega) | skip
  all_goals (refine ret3f rfl rfl rfl rfl rfl rfl rfl (fun w1 hw => ⟨_, _, rfl, hw.drop, rfl, rfl⟩))
end Go.Proofs.Ytbhgahjeocnfcaa
namespace Go.Proofs.Ytbhgahjeocnfcaa
open Go Go.Cx Go.RowKit
set_option linter.unusedVariables false
set_option linter.unusedSimpArgs false
set_option maxHeartbeats 4000000
attribute [local irreducible] J JC thenK blockK loopK roundK drawK retK QW Qt pel List.set Calls
open Go.Maps Go.Lib
set_option maxRecDepth 8000
attribute [local irreducible] JE Br eK0 eK3 brK pc
section
variable {P : Program} {n : Nat} {w0 : World} {R : Heap} {l0 : List Oper} {K : Exit → Fr → List Heap → Prop} {f : Fr} {L : List Heap} {rest : List (Nat × Oper)} {κ : Nat}
variable {d : Nat} {ty : TypeId} {pos : String} {aft : Array Edge} {g : Option (Nat × Bool)} {t u : TypeId} {x y : Operand}
theorem J.eqT2 {Γ : List (Nat × TI)} {a b : Nat} (hΓ : Fits P Γ) (h : a = b) (k : J P n w0 R l0 K rest (upd f d (.bool true)) L) (hg : wantB n f l0 ⟨some d, .binOp .eql t x y u, ty, pos, aft, g⟩ = true := by exact rfl) (hx : Cx.ev n f x = .int .i64 (a : Int) := by exact rfl) (hy : Cx.ev n f y = .int .i64 (b : Int) := by exact rfl) (hv : pureEv Γ (Cx.ev n f) (.binOp .eql t x y u) = some (.bool ((a : Int) == (b : Int))) := by exact rfl) : J P n w0 R l0 K ((κ, ⟨some d, .binOp .eql t x y u, ty, pos, aft, g⟩) :: rest) f L := by
  subst h
  have e : ((a : Int) == (a : Int)) = true := by simp
  rw [e] at hv
  exact J.ev hΓ hg hv k
end
end Go.Proofs.Ytbhgahjeocnfcaa
namespace Go.Proofs.Ytbhgahjeocnfcaa
open Go Go.Cx Go.RowKit
set_option linter.unusedVariables false
set_option linter.unusedSimpArgs false
set_option maxHeartbeats 4000000
attribute [local irreducible] J JC thenK blockK loopK roundK drawK retK QW Qt pel List.set Calls
open Go.Maps Go.Lib
set_option maxRecDepth 8000
attribute [local irreducible] JE Br eK0 eK3 brK pc
def litT (b : Int → Bool) (l : Int) : Bool := if l < 0 then !b (-l) else b l
def evT (b : Int → Bool) (T : List (List Int)) : Bool := T.all fun c => c.any (litT b)
def okTh (N : Nat) (T : List (List Int)) : Prop := N ≤ 128 ∧ T.length ≤ 4096 ∧ ∀ c ∈ T, c.length ≤ 128 ∧ ∀ x ∈ c, x ≠ 0 ∧ -(N : Int) ≤ x ∧ x ≤ N
theorem okTh_iff {N : Nat} {T : List (List Int)} : thE (N : Int) T = 0 ↔ okTh N T := by
  rw [thE_ok]
  unfold okTh
  constructor
  · rintro ⟨h1, h2, h3⟩; exact ⟨by omega, h2, h3⟩
  · rintro ⟨h1, h2, h3⟩; exact ⟨⟨by omega, by omega⟩, h2, h3⟩
end Go.Proofs.Ytbhgahjeocnfcaa
