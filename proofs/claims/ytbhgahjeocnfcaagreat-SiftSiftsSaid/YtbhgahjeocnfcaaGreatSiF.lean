/- SiftSifts: part 6. -/
import Derived.Test.YtbhgahjeocnfcaaGreatSiE
namespace Go.Proofs.YtbhgahjeocnfcaaGreat
open Go Go.Cx Go.RowKit
set_option linter.unusedVariables false
set_option linter.unusedSimpArgs false
set_option maxHeartbeats 4000000
attribute [local irreducible] J JC thenK blockK loopK roundK drawK retK QW Qt pel List.set Calls
open Go.Maps
set_option maxRecDepth 8000
attribute [local irreducible] JE Br eK0 eK3 brK
theorem chL_any (n : Nat) (K : KS) (b c1 c2 : Nat) {c s0 : Nat} {Φ : Nat → List ((Nat → Bool) → Bool)} (lv : Lev n Φ c) (h20 : 2 ≤ s0) (hc : s0 + c < 1048576) : ∀ (m k : Nat) (s : SS) (x : T3), n - k = m → SOk n K s → x.lt s.ns.length → x.from s.ns k → s0 ≤ s.ns.length → InG n Φ s.ns s0 → InL n Φ k (iteF n s.ns x) →
    ∀ {w0 w : World} {R : Heap} {L : List Heap}, H w0 R (sF K b s ++ L) w → Rd R L c1 (ptrS b) → Rd R L c2 (fnC c1 c2) →
    Calls Tryz.prog 59 #[ekT x, .pointer (some ⟨c1, 0, none⟩), .pointer (some ⟨c2, 0, none⟩)] w fun e w' => ∃ v L', e = .returned v ∧ H w0 R L' w' ∧ ∃ s' y, v = .int .i64 ((y : Nat) : Int) ∧ L' = sF K b s' ++ L ∧ Adds n K s s' 1048576 y ∧ Ite n s'.ns x y ∧ InG n Φ s'.ns s0 := by
  intro m
  induction m using Nat.strongRecOn with
  | ind m ih =>
  intro k s x hm so hx hf hs0 hin hG w0 w R L hw r1 r2
  have n8 := so.n8
  have hno := so.no
  have sm := so.sm
  have hwf := so.wf
  have hx1 := hx.1
  have hx2 := hx.2.1
  have hx3 := hx.2.2
  have two := hwf.two
  have adz : ∀ y, y < s.ns.length → Adds n K s s 1048576 y := fun y hy => ⟨so, Ext.refl _, by omega, hy⟩
  by_cases hA : x.a = 1 ∨ x.b = x.c
  · unfold sF at hw
    simp only [List.cons_append, List.nil_append] at hw
    rcases hA with hA1 | hA1
    all_goals
      refine calls_in Tryz.func59 Tryz.ntmps59 rfl rfl (hw) ?_
      unfold stO ekT
      repeat' first
        | (refine J.isJ ?_; first | (first | (refine J.o 0 ?_; refine J.ev' hΓ ?_) | refine J.nil ?_ | refine J.kd ?_ | (refine J.o 4 ?_; first | refine J.lT default hΓ ?_ | refine J.lR hΓ ?_) | (refine J.o 3 ?_; first | refine J.iA hΓ ?_ | refine J.iJ hΓ ?_ | refine J.fP hΓ ?_ | refine J.ev' hΓ ?_) | (refine J.o 1 ?_; first | refine J.ad ?_) | (refine J.o 5 ?_; first | refine J.t0 hΓ ?_ | refine J.t1 hΓ ?_) | (refine J.o 6 ?_; refine J.bx (fun _ => ?_)) | (refine J.o 7 ?_; refine J.al hΓ (fun _ => ?_)) | (refine J.o 10 ?_; refine J.ev' hΓ ?_) | (refine J.o 11 ?_; refine J.ev' hΓ ?_)) | ((fail_if_success refine J.wt ?_); refine J.gc rfl rfl (fun hc => ?_) (fun hc => ?_) <;> ((try simp only [decide_eq_true_eq, decide_eq_false_iff_not, beq_iff_eq, beq_eq_false_iff_ne, bne_iff_ne, bne_eq_false_iff_eq, Bool.not_eq_true', Bool.not_eq_false', Bool.not_eq_true, Bool.not_eq_false] at hc) <;> first | (first | (exact absurd rfl hc) | (exfalso; omega) | (exact absurd (hc.symm.trans (by assumption : _ = false)) (by decide)) | (exact absurd (hc.symm.trans (by assumption : _ = true)) (by decide))) | skip)))
        | (first | refine JC.seq ?_ | refine JC.region ?_ | refine JC.block ?_ | refine JC.ret ?_ | refine JC.exit ?_ | refine JC.skip ?_ | refine thenK.nn ?_ | refine thenK.r ?_ | refine thenK.x ?_ | refine blockK.nn ?_ | refine blockK.r ?_ | refine blockK.hit rfl ?_ | refine JC.condT rfl ?_ | refine JC.condF rfl ?_ | (refine JC.cond rfl (fun hc => ?_) (fun hc => ?_) <;> ((try simp only [decide_eq_true_eq, decide_eq_false_iff_not, beq_iff_eq, beq_eq_false_iff_ne, bne_iff_ne, bne_eq_false_iff_eq, Bool.not_eq_true', Bool.not_eq_false', Bool.not_eq_true, Bool.not_eq_false] at hc) <;> first | (first | (exact absurd rfl hc) | (exfalso; omega) | (exact absurd (hc.symm.trans (by assumption : _ = false)) (by decide)) | (exact absurd (hc.symm.trans (by assumption : _ = true)) (by decide))) | skip)) | refine drawK.nn ?_ | refine loopK.x ?_)
        | (fail)
        | fail
      all_goals first | (exfalso; omega) | skip
      all_goals (refine ret1f rfl rfl rfl (fun w1 hw => ⟨_, _, rfl, hw.drop, s, x.b, rfl, rfl, adz _ hx2, Ite.t1 hwf hx ?_, hin⟩))
      all_goals first | exact .inl hA1 | exact .inr hA1
  by_cases hB : x.a = 0
  · unfold sF at hw
    simp only [List.cons_append, List.nil_append] at hw
    refine calls_in Tryz.func59 Tryz.ntmps59 rfl rfl (hw) ?_
    unfold stO ekT
    repeat' first
      | (refine J.isJ ?_; first | (first | (refine J.o 0 ?_; refine J.ev' hΓ ?_) | refine J.nil ?_ | refine J.kd ?_ | (refine J.o 4 ?_; first | refine J.lT default hΓ ?_ | refine J.lR hΓ ?_) | (refine J.o 3 ?_; first | refine J.iA hΓ ?_ | refine J.iJ hΓ ?_ | refine J.fP hΓ ?_ | refine J.ev' hΓ ?_) | (refine J.o 1 ?_; first | refine J.ad ?_) | (refine J.o 5 ?_; first | refine J.t0 hΓ ?_ | refine J.t1 hΓ ?_) | (refine J.o 6 ?_; refine J.bx (fun _ => ?_)) | (refine J.o 7 ?_; refine J.al hΓ (fun _ => ?_)) | (refine J.o 10 ?_; refine J.ev' hΓ ?_) | (refine J.o 11 ?_; refine J.ev' hΓ ?_)) | ((fail_if_success refine J.wt ?_); refine J.gc rfl rfl (fun hc => ?_) (fun hc => ?_) <;> ((try simp only [decide_eq_true_eq, decide_eq_false_iff_not, beq_iff_eq, beq_eq_false_iff_ne, bne_iff_ne, bne_eq_false_iff_eq, Bool.not_eq_true', Bool.not_eq_false', Bool.not_eq_true, Bool.not_eq_false] at hc) <;> first | (first | (exact absurd rfl hc) | (exfalso; omega) | (exact absurd (hc.symm.trans (by assumption : _ = false)) (by decide)) | (exact absurd (hc.symm.trans (by assumption : _ = true)) (by decide))) | skip)))
      | (first | refine JC.seq ?_ | refine JC.region ?_ | refine JC.block ?_ | refine JC.ret ?_ | refine JC.exit ?_ | refine JC.skip ?_ | refine thenK.nn ?_ | refine thenK.r ?_ | refine thenK.x ?_ | refine blockK.nn ?_ | refine blockK.r ?_ | refine blockK.hit rfl ?_ | refine JC.condT rfl ?_ | refine JC.condF rfl ?_ | (refine JC.cond rfl (fun hc => ?_) (fun hc => ?_) <;> ((try simp only [decide_eq_true_eq, decide_eq_false_iff_not, beq_iff_eq, beq_eq_false_iff_ne, bne_iff_ne, bne_eq_false_iff_eq, Bool.not_eq_true', Bool.not_eq_false', Bool.not_eq_true, Bool.not_eq_false] at hc) <;> first | (first | (exact absurd rfl hc) | (exfalso; omega) | (exact absurd (hc.symm.trans (by assumption : _ = false)) (by decide)) | (exact absurd (hc.symm.trans (by assumption : _ = true)) (by decide))) | skip)) | refine drawK.nn ?_ | refine loopK.x ?_)
      | (fail)
      | fail
    all_goals first | (exfalso; omega) | skip
    all_goals (refine ret1f rfl rfl rfl (fun w1 hw => ⟨_, _, rfl, hw.drop, s, x.c, rfl, rfl, adz _ hx3, Ite.t2 hwf hx hB, hin⟩))
  by_cases hC : x.b = 1 ∧ x.c = 0
  · unfold sF at hw
    simp only [List.cons_append, List.nil_append] at hw
    refine calls_in Tryz.func59 Tryz.ntmps59 rfl rfl (hw) ?_
    unfold stO ekT
    repeat' first
      | (refine J.isJ ?_; first | (first | (refine J.o 0 ?_; refine J.ev' hΓ ?_) | refine J.nil ?_ | refine J.kd ?_ | (refine J.o 4 ?_; first | refine J.lT default hΓ ?_ | refine J.lR hΓ ?_) | (refine J.o 3 ?_; first | refine J.iA hΓ ?_ | refine J.iJ hΓ ?_ | refine J.fP hΓ ?_ | refine J.ev' hΓ ?_) | (refine J.o 1 ?_; first | refine J.ad ?_) | (refine J.o 5 ?_; first | refine J.t0 hΓ ?_ | refine J.t1 hΓ ?_) | (refine J.o 6 ?_; refine J.bx (fun _ => ?_)) | (refine J.o 7 ?_; refine J.al hΓ (fun _ => ?_)) | (refine J.o 10 ?_; refine J.ev' hΓ ?_) | (refine J.o 11 ?_; refine J.ev' hΓ ?_)) | ((fail_if_success refine J.wt ?_); refine J.gc rfl rfl (fun hc => ?_) (fun hc => ?_) <;> ((try simp only [decide_eq_true_eq, decide_eq_false_iff_not, beq_iff_eq, beq_eq_false_iff_ne, bne_iff_ne, bne_eq_false_iff_eq, Bool.not_eq_true', Bool.not_eq_false', Bool.not_eq_true, Bool.not_eq_false] at hc) <;> first | (first | (exact absurd rfl hc) | (exfalso; omega) | (exact absurd (hc.symm.trans (by assumption : _ = false)) (by decide)) | (exact absurd (hc.symm.trans (by assumption : _ = true)) (by decide))) | skip)))
      | (first | refine JC.seq ?_ | refine JC.region ?_ | refine JC.block ?_ | refine JC.ret ?_ | refine JC.exit ?_ | refine JC.skip ?_ | refine thenK.nn ?_ | refine thenK.r ?_ | refine thenK.x ?_ | refine blockK.nn ?_ | refine blockK.r ?_ | refine blockK.hit rfl ?_ | refine JC.condT rfl ?_ | refine JC.condF rfl ?_ | (refine JC.cond rfl (fun hc => ?_) (fun hc => ?_) <;> ((try simp only [decide_eq_true_eq, decide_eq_false_iff_not, beq_iff_eq, beq_eq_false_iff_ne, bne_iff_ne, bne_eq_false_iff_eq, Bool.not_eq_true', Bool.not_eq_false', Bool.not_eq_true, Bool.not_eq_false] at hc) <;> first | (first | (exact absurd rfl hc) | (exfalso; omega) | (exact absurd (hc.symm.trans (by assumption : _ = false)) (by decide)) | (exact absurd (hc.symm.trans (by assumption : _ = true)) (by decide))) | skip)) | refine drawK.nn ?_ | refine loopK.x ?_)
      | (fail)
      | fail
    all_goals first | (exfalso; omega) | skip
    all_goals (refine ret1f rfl rfl rfl (fun w1 hw => ⟨_, _, rfl, hw.drop, s, x.a, rfl, rfl, adz _ hx1, Ite.t3 hwf hx hC.1 hC.2, hin⟩))
  have hkey := kT_key x ⟨by omega, by omega, by omega⟩
  have mm := so.mm
  have rc1 := r1
  unfold ptrS at rc1
  cases hget : mget s.m x with
  | some y =>
    obtain ⟨_, hite⟩ := so.mo x y (mget_mem hget)
    unfold sF at hw
    simp only [List.cons_append, List.nil_append] at hw
    refine calls_in Tryz.func59 Tryz.ntmps59 rfl rfl (hw) ?_
    unfold stO ekT
    repeat' first
      | (refine J.isJ ?_; first | (first | (refine J.o 4 ?_; refine J.lR hΓ ?_ (hr := rc1.tl.tl.tl.tl.tl)) | (refine J.o 9 ?_; refine J.lk (a := x) kT ekT_inj mm (by first | exact RdH.hd | exact RdH.hd.tl | exact RdH.hd.tl.tl | exact RdH.hd.tl.tl.tl | exact RdH.hd.tl.tl.tl.tl | exact RdH.hd.tl.tl.tl.tl.tl | exact RdH.hd.tl.tl.tl.tl.tl.tl | exact RdH.hd.tl.tl.tl.tl.tl.tl.tl | exact RdH.old (fun _ hh => hh) | assumption) hkey hΓ ?_; rw [hget])) | (first | (refine J.o 0 ?_; refine J.ev' hΓ ?_) | refine J.nil ?_ | refine J.kd ?_ | (refine J.o 4 ?_; first | refine J.lT default hΓ ?_ | refine J.lR hΓ ?_) | (refine J.o 3 ?_; first | refine J.iA hΓ ?_ | refine J.iJ hΓ ?_ | refine J.fP hΓ ?_ | refine J.ev' hΓ ?_) | (refine J.o 1 ?_; first | refine J.ad ?_) | (refine J.o 5 ?_; first | refine J.t0 hΓ ?_ | refine J.t1 hΓ ?_) | (refine J.o 6 ?_; refine J.bx (fun _ => ?_)) | (refine J.o 7 ?_; refine J.al hΓ (fun _ => ?_)) | (refine J.o 10 ?_; refine J.ev' hΓ ?_) | (refine J.o 11 ?_; refine J.ev' hΓ ?_)) | ((fail_if_success refine J.wt ?_); refine J.gc rfl rfl (fun hc => ?_) (fun hc => ?_) <;> ((try simp only [decide_eq_true_eq, decide_eq_false_iff_not, beq_iff_eq, beq_eq_false_iff_ne, bne_iff_ne, bne_eq_false_iff_eq, Bool.not_eq_true', Bool.not_eq_false', Bool.not_eq_true, Bool.not_eq_false] at hc) <;> first | (first | (exact absurd rfl hc) | (exfalso; omega) | (exact absurd (hc.symm.trans (by assumption : _ = false)) (by decide)) | (exact absurd (hc.symm.trans (by assumption : _ = true)) (by decide))) | skip)))
      | (first | refine JC.seq ?_ | refine JC.region ?_ | refine JC.block ?_ | refine JC.ret ?_ | refine JC.exit ?_ | refine JC.skip ?_ | refine thenK.nn ?_ | refine thenK.r ?_ | refine thenK.x ?_ | refine blockK.nn ?_ | refine blockK.r ?_ | refine blockK.hit rfl ?_ | refine JC.condT rfl ?_ | refine JC.condF rfl ?_ | (refine JC.cond rfl (fun hc => ?_) (fun hc => ?_) <;> ((try simp only [decide_eq_true_eq, decide_eq_false_iff_not, beq_iff_eq, beq_eq_false_iff_ne, bne_iff_ne, bne_eq_false_iff_eq, Bool.not_eq_true', Bool.not_eq_false', Bool.not_eq_true, Bool.not_eq_false] at hc) <;> first | (first | (exact absurd rfl hc) | (exfalso; omega) | (exact absurd (hc.symm.trans (by assumption : _ = false)) (by decide)) | (exact absurd (hc.symm.trans (by assumption : _ = true)) (by decide))) | skip)) | refine drawK.nn ?_ | refine loopK.x ?_)
      | ((refine JC.drawO [(1,0),(0,1),(0,2),(1,3),(1,4),(1,5),(0,6),(0,7),(0,8),(0,9),(0,10)] (by kernel_rfl) (by kernel_rfl) ?_))
      | fail
    all_goals first | (exfalso; omega) | skip
    all_goals (refine ret1f rfl rfl rfl (fun w1 hw => ⟨_, _, rfl, hw.drop, s, y, rfl, rfl, adz _ hite.lt, hite, hin⟩))
  | none =>
    have ha2 : 2 ≤ x.a := by omega
    have hpa := hwf.pl _ ha2 hx1
    have hm3 : mnP n s.ns x 3 = min (min (min n (nd s.ns x.a).p) (nd s.ns x.b).p) (nd s.ns x.c).p := rfl
    have hp1 : mnP n s.ns x 3 < n := by rw [hm3]; omega
    have hp2 : k ≤ mnP n s.ns x 3 := by have := hf.1; have := hf.2.1; have := hf.2.2; have := hwf.ple hx1; rw [hm3]; omega
    have hpf : x.from s.ns (mnP n s.ns x 3) := ⟨by rw [hm3]; omega, by rw [hm3]; omega, by rw [hm3]; omega⟩
    have xl := fun b => partT_lt hwf b hx hp1
    have xf := fun b => partT_from hwf b hx hp1 hpf
    have rc2 := r2
    unfold fnC at rc2
    have ow := so.ow
    have hsl := ow.sl
    have hGp : InL n Φ (mnP n s.ns x 3) (iteF n s.ns x) := by
      have := InL.skip lv (mnP n s.ns x 3 - k) k (by omega) (fun j hj b α => iteF_dep hwf hx hpf (by omega) b α) hG
      rwa [show k + (mnP n s.ns x 3 - k) = mnP n s.ns x 3 by omega] at this
    have hGb : ∀ b, InL n Φ (mnP n s.ns x 3 + 1) (iteF n s.ns (partT s.ns x (mnP n s.ns x 3) b)) := fun b => by
      rw [iteF_part hwf b hx hp1 hpf]; exact InL.step lv hp1 b hGp
    have hG0 : InL n Φ 0 (iteF n s.ns x) := by
      rcases hG with g | ⟨j, _, g2, g3⟩
      · exact .inl g
      · exact .inr ⟨j, Nat.zero_le _, g2, g3⟩
    have cPart : ∀ w1 L1, H w0 R L1 w1 → Rd R L1 b (stO K s.an s.ns.length s.cn) → RdH R L1 s.hN → ∀ a hi, a < s.ns.length → Calls Tryz.prog 51 #[.pointer (some ⟨b, 0, none⟩), .int .i64 (a : Int), .int .i64 ((mnP n s.ns x 3 : Nat) : Int), .bool hi] w1 fun e w' => e = .returned (.int .i64 (partN s.ns a (mnP n s.ns x 3) hi : Int)) ∧ Below w1.heap.size w1 w' :=
      fun w1 L1 h1 rb rn a hi ha => part_any K b s.an s.cn s.ns ((b, stO K s.an s.ns.length s.cn) :: s.hN) (hsl.sub fun y hy => List.mem_cons_of_mem _ hy) List.mem_cons_self a _ hi ha w1 (holds2 (h1.rd rb) (h1.rdH rn))
    unfold sF at hw
    simp only [List.cons_append, List.nil_append] at hw
    rcases Nat.decEq x.b 1 with hb1 | hb1
    all_goals
      refine calls_in Tryz.func59 Tryz.ntmps59 rfl rfl (hw) ?_
      unfold stO ekT
      repeat' first
        | (refine J.isJ ?_; first | (first | (refine J.o 6 ?_; refine J.bx (fun b3 => ?_)) | (refine J.o 4 ?_; refine J.lR hΓ ?_ (hr := rc1.tl.tl.tl.tl.tl)) | (refine J.o 9 ?_; refine J.lk (a := x) kT ekT_inj mm (by first | exact RdH.hd | exact RdH.hd.tl | exact RdH.hd.tl.tl | exact RdH.hd.tl.tl.tl | exact RdH.hd.tl.tl.tl.tl | exact RdH.hd.tl.tl.tl.tl.tl | exact RdH.hd.tl.tl.tl.tl.tl.tl | exact RdH.hd.tl.tl.tl.tl.tl.tl.tl | exact RdH.old (fun _ hh => hh) | assumption) hkey hΓ ?_; rw [hget])) | (first | (refine J.o 0 ?_; refine J.ev' hΓ ?_) | refine J.nil ?_ | refine J.kd ?_ | (refine J.o 4 ?_; first | refine J.lT default hΓ ?_ | refine J.lR hΓ ?_) | (refine J.o 3 ?_; first | refine J.iA hΓ ?_ | refine J.iJ hΓ ?_ | refine J.fP hΓ ?_ | refine J.ev' hΓ ?_) | (refine J.o 1 ?_; first | refine J.ad ?_) | (refine J.o 5 ?_; first | refine J.t0 hΓ ?_ | refine J.t1 hΓ ?_) | (refine J.o 6 ?_; refine J.bx (fun _ => ?_)) | (refine J.o 7 ?_; refine J.al hΓ (fun _ => ?_)) | (refine J.o 10 ?_; refine J.ev' hΓ ?_) | (refine J.o 11 ?_; refine J.ev' hΓ ?_)) | ((fail_if_success refine J.wt ?_); refine J.gc rfl rfl (fun hc => ?_) (fun hc => ?_) <;> ((try simp only [decide_eq_true_eq, decide_eq_false_iff_not, beq_iff_eq, beq_eq_false_iff_ne, bne_iff_ne, bne_eq_false_iff_eq, Bool.not_eq_true', Bool.not_eq_false', Bool.not_eq_true, Bool.not_eq_false] at hc) <;> first | (first | (exact absurd rfl hc) | (exfalso; omega) | (exact absurd (hc.symm.trans (by assumption : _ = false)) (by decide)) | (exact absurd (hc.symm.trans (by assumption : _ = true)) (by decide))) | skip)))
        | (first | refine JC.seq ?_ | refine JC.region ?_ | refine JC.block ?_ | refine JC.ret ?_ | refine JC.exit ?_ | refine JC.skip ?_ | refine thenK.nn ?_ | refine thenK.r ?_ | refine thenK.x ?_ | refine blockK.nn ?_ | refine blockK.r ?_ | refine blockK.hit rfl ?_ | refine JC.condT rfl ?_ | refine JC.condF rfl ?_ | (refine JC.cond rfl (fun hc => ?_) (fun hc => ?_) <;> ((try simp only [decide_eq_true_eq, decide_eq_false_iff_not, beq_iff_eq, beq_eq_false_iff_ne, bne_iff_ne, bne_eq_false_iff_eq, Bool.not_eq_true', Bool.not_eq_false', Bool.not_eq_true, Bool.not_eq_false] at hc) <;> first | (first | (exact absurd rfl hc) | (exfalso; omega) | (exact absurd (hc.symm.trans (by assumption : _ = false)) (by decide)) | (exact absurd (hc.symm.trans (by assumption : _ = true)) (by decide))) | skip)) | refine drawK.nn ?_ | refine loopK.x ?_)
        | ((refine JC.drawO [(1,0),(0,1),(0,2),(1,3),(1,4),(1,5),(0,6),(0,7),(0,8),(0,9),(0,10)] (by kernel_rfl) (by kernel_rfl) ?_))
        | fail
      all_goals first | (exfalso; omega) | skip
      refine JC.loop (fun i => i == 7 || i == 9 || Nat.ble 63 i) (fun m g L' => ∃ q, g 63 = .int .i64 ((q : Nat) : Int) ∧ q + m = 3 ∧ g 7 = .int .i64 ((mnP n s.ns x q : Nat) : Int) ∧ L' = [(b3, Obj.cells ⟨[.int .i64 (x.a : Int), .int .i64 (x.b : Int), .int .i64 (x.c : Int)]⟩ 104 (0, 0))] :: [(b, stO K s.an s.ns.length s.cn)] :: s.hN :: s.hU :: s.hM :: L) 3 ⟨0, rfl, rfl, congrArg (fun z : Nat => Value.int .i64 (z : Int)) hno, rfl⟩ ?_
      rintro m1 g1 L' ⟨q, e63, hq, e7, rfl⟩
      refine JC.pin 63 e63 ?_
      refine JC.pin 7 e7 ?_
      unfold stO
      rcases (by omega : q = 3 ∨ q = 0 ∨ q = 1 ∨ q = 2) with rfl | rfl | rfl | rfl
      ·
        repeat' first
          | (refine J.isJ ?_; first | (first | (refine J.o 7 ?_; first | refine J.al hΓ (fun b10 => ?_))) | (first | (refine J.o 0 ?_; refine J.ev' hΓ ?_) | refine J.nil ?_ | refine J.kd ?_ | (refine J.o 4 ?_; first | refine J.lT default hΓ ?_ | refine J.lR hΓ ?_) | (refine J.o 3 ?_; first | refine J.iA hΓ ?_ | refine J.iJ hΓ ?_ | refine J.fP hΓ ?_ | refine J.ev' hΓ ?_) | (refine J.o 1 ?_; first | refine J.ad ?_) | (refine J.o 5 ?_; first | refine J.t0 hΓ ?_ | refine J.t1 hΓ ?_) | (refine J.o 6 ?_; refine J.bx (fun _ => ?_)) | (refine J.o 7 ?_; refine J.al hΓ (fun _ => ?_)) | (refine J.o 10 ?_; refine J.ev' hΓ ?_) | (refine J.o 11 ?_; refine J.ev' hΓ ?_)) | ((fail_if_success refine J.wt ?_); refine J.gc rfl rfl (fun hc => ?_) (fun hc => ?_) <;> ((try simp only [decide_eq_true_eq, decide_eq_false_iff_not, beq_iff_eq, beq_eq_false_iff_ne, bne_iff_ne, bne_eq_false_iff_eq, Bool.not_eq_true', Bool.not_eq_false', Bool.not_eq_true, Bool.not_eq_false] at hc) <;> first | (first | (exact absurd rfl hc) | (exfalso; omega) | (exact absurd (hc.symm.trans (by assumption : _ = false)) (by decide)) | (exact absurd (hc.symm.trans (by assumption : _ = true)) (by decide))) | skip)))
          | (first | refine JC.seq ?_ | refine JC.region ?_ | refine JC.block ?_ | refine JC.ret ?_ | refine JC.exit ?_ | refine JC.skip ?_ | refine thenK.nn ?_ | refine thenK.r ?_ | refine thenK.x ?_ | refine blockK.nn ?_ | refine blockK.r ?_ | refine blockK.hit rfl ?_ | refine JC.condT rfl ?_ | refine JC.condF rfl ?_ | (refine JC.cond rfl (fun hc => ?_) (fun hc => ?_) <;> ((try simp only [decide_eq_true_eq, decide_eq_false_iff_not, beq_iff_eq, beq_eq_false_iff_ne, bne_iff_ne, bne_eq_false_iff_eq, Bool.not_eq_true', Bool.not_eq_false', Bool.not_eq_true, Bool.not_eq_false] at hc) <;> first | (first | (exact absurd rfl hc) | (exfalso; omega) | (exact absurd (hc.symm.trans (by assumption : _ = false)) (by decide)) | (exact absurd (hc.symm.trans (by assumption : _ = true)) (by decide))) | skip)) | refine drawK.nn ?_ | refine loopK.x ?_)
          | (fail)
          | fail
        all_goals first | (exfalso; omega) | skip
        rename_i bl
        refine JC.loop (fun i => i == 12 || i == 13 || Nat.ble 78 i) (fun m g L' => ∃ q, g 78 = .int .i64 ((q : Nat) : Int) ∧ q + m = 3 ∧ L' = [(b10, Obj.cells ⟨pcs s.ns x (mnP n s.ns x 3) true q⟩ 104 (0, 0))] :: [(bl, Obj.cells ⟨pcs s.ns x (mnP n s.ns x 3) false q⟩ 104 (0, 0))] :: [(b3, Obj.cells ⟨[.int .i64 (x.a : Int), .int .i64 (x.b : Int), .int .i64 (x.c : Int)]⟩ 104 (0, 0))] :: [(b, stO K s.an s.ns.length s.cn)] :: s.hN :: s.hU :: s.hM :: L) 3 ⟨0, rfl, rfl, rfl⟩ ?_
        rintro m2 g2 L' ⟨q, e78, hq2, rfl⟩
        refine JC.pin 78 e78 ?_
        unfold stO
        rcases (by omega : q = 3 ∨ q = 0 ∨ q = 1 ∨ q = 2) with rfl | rfl | rfl | rfl
        all_goals simp only [pcs]
        ·
          repeat' first
            | (refine J.isJ ?_; first | (first | (refine J.o 4 ?_; first | refine J.lR hΓ ?_ (hr := rc1.tl.tl.tl.tl.tl.tl.tl) | refine J.lR hΓ ?_ (hr := rc2.tl.tl.tl.tl.tl.tl.tl))) | (first | (refine J.o 0 ?_; refine J.ev' hΓ ?_) | refine J.nil ?_ | refine J.kd ?_ | (refine J.o 4 ?_; first | refine J.lT default hΓ ?_ | refine J.lR hΓ ?_) | (refine J.o 3 ?_; first | refine J.iA hΓ ?_ | refine J.iJ hΓ ?_ | refine J.fP hΓ ?_ | refine J.ev' hΓ ?_) | (refine J.o 1 ?_; first | refine J.ad ?_) | (refine J.o 5 ?_; first | refine J.t0 hΓ ?_ | refine J.t1 hΓ ?_) | (refine J.o 6 ?_; refine J.bx (fun _ => ?_)) | (refine J.o 7 ?_; refine J.al hΓ (fun _ => ?_)) | (refine J.o 10 ?_; refine J.ev' hΓ ?_) | (refine J.o 11 ?_; refine J.ev' hΓ ?_)) | ((fail_if_success refine J.wt ?_); refine J.gc rfl rfl (fun hc => ?_) (fun hc => ?_) <;> ((try simp only [decide_eq_true_eq, decide_eq_false_iff_not, beq_iff_eq, beq_eq_false_iff_ne, bne_iff_ne, bne_eq_false_iff_eq, Bool.not_eq_true', Bool.not_eq_false', Bool.not_eq_true, Bool.not_eq_false] at hc) <;> first | (first | (exact absurd rfl hc) | (exfalso; omega) | (exact absurd (hc.symm.trans (by assumption : _ = false)) (by decide)) | (exact absurd (hc.symm.trans (by assumption : _ = true)) (by decide))) | skip)))
            | (first | refine JC.seq ?_ | refine JC.region ?_ | refine JC.block ?_ | refine JC.ret ?_ | refine JC.exit ?_ | refine JC.skip ?_ | refine thenK.nn ?_ | refine thenK.r ?_ | refine thenK.x ?_ | refine blockK.nn ?_ | refine blockK.r ?_ | refine blockK.hit rfl ?_ | refine JC.condT rfl ?_ | refine JC.condF rfl ?_ | (refine JC.cond rfl (fun hc => ?_) (fun hc => ?_) <;> ((try simp only [decide_eq_true_eq, decide_eq_false_iff_not, beq_iff_eq, beq_eq_false_iff_ne, bne_iff_ne, bne_eq_false_iff_eq, Bool.not_eq_true', Bool.not_eq_false', Bool.not_eq_true, Bool.not_eq_false] at hc) <;> first | (first | (exact absurd rfl hc) | (exfalso; omega) | (exact absurd (hc.symm.trans (by assumption : _ = false)) (by decide)) | (exact absurd (hc.symm.trans (by assumption : _ = true)) (by decide))) | skip)) | refine drawK.nn ?_ | refine loopK.x ?_)
            | ((first | refine JC.drawO [(1,0),(0,1),(0,2),(1,3),(1,4),(2,5),(0,6),(2,7),(0,8)] (by decide +kernel) (by decide +kernel) ?_ | refine JC.drawO [(1,0),(0,1),(0,2),(1,3),(1,4),(0,5),(2,6)] (by decide +kernel) (by decide +kernel) ?_))
            | fail
          refine J.isJ ?_
          refine J.o 9 ?_
          refine J.callvx eChC rfl rfl rfl (fun w hw => ih (n - (mnP n s.ns x 3 + 1)) (by omega) _ s (partT s.ns x (mnP n s.ns x 3) false) rfl so (xl _) (xf _) hs0 hin (hGb _) (H.sel (l := [_, _, _, _, _, _, _]) (M := L) hw [3, 4, 5, 6, 0, 1, 2]) r1.tl.tl.tl r2.tl.tl.tl) ?_
          rintro _ _ ⟨s1, y1, rfl, rfl, ad1, it1, in1⟩
          have hG1 := iteF_ext hwf ad1.ext (xl true)
          have hs1 := ad1.ext.le
          unfold sF stO
          simp only [List.cons_append, List.nil_append]
          repeat' first
            | (refine J.isJ ?_; first | (fail) | (first | (refine J.o 0 ?_; refine J.ev' hΓ ?_) | refine J.nil ?_ | refine J.kd ?_ | (refine J.o 4 ?_; first | refine J.lT default hΓ ?_ | refine J.lR hΓ ?_) | (refine J.o 3 ?_; first | refine J.iA hΓ ?_ | refine J.iJ hΓ ?_ | refine J.fP hΓ ?_ | refine J.ev' hΓ ?_) | (refine J.o 1 ?_; first | refine J.ad ?_) | (refine J.o 5 ?_; first | refine J.t0 hΓ ?_ | refine J.t1 hΓ ?_) | (refine J.o 6 ?_; refine J.bx (fun _ => ?_)) | (refine J.o 7 ?_; refine J.al hΓ (fun _ => ?_)) | (refine J.o 10 ?_; refine J.ev' hΓ ?_) | (refine J.o 11 ?_; refine J.ev' hΓ ?_)) | ((fail_if_success refine J.wt ?_); refine J.gc rfl rfl (fun hc => ?_) (fun hc => ?_) <;> ((try simp only [decide_eq_true_eq, decide_eq_false_iff_not, beq_iff_eq, beq_eq_false_iff_ne, bne_iff_ne, bne_eq_false_iff_eq, Bool.not_eq_true', Bool.not_eq_false', Bool.not_eq_true, Bool.not_eq_false] at hc) <;> first | (first | (exact absurd rfl hc) | (exfalso; omega) | (exact absurd (hc.symm.trans (by assumption : _ = false)) (by decide)) | (exact absurd (hc.symm.trans (by assumption : _ = true)) (by decide))) | skip)))
            | (first | refine JC.seq ?_ | refine JC.region ?_ | refine JC.block ?_ | refine JC.ret ?_ | refine JC.exit ?_ | refine JC.skip ?_ | refine thenK.nn ?_ | refine thenK.r ?_ | refine thenK.x ?_ | refine blockK.nn ?_ | refine blockK.r ?_ | refine blockK.hit rfl ?_ | refine JC.condT rfl ?_ | refine JC.condF rfl ?_ | (refine JC.cond rfl (fun hc => ?_) (fun hc => ?_) <;> ((try simp only [decide_eq_true_eq, decide_eq_false_iff_not, beq_iff_eq, beq_eq_false_iff_ne, bne_iff_ne, bne_eq_false_iff_eq, Bool.not_eq_true', Bool.not_eq_false', Bool.not_eq_true, Bool.not_eq_false] at hc) <;> first | (first | (exact absurd rfl hc) | (exfalso; omega) | (exact absurd (hc.symm.trans (by assumption : _ = false)) (by decide)) | (exact absurd (hc.symm.trans (by assumption : _ = true)) (by decide))) | skip)) | refine drawK.nn ?_ | refine loopK.x ?_)
            | (fail)
            | fail
          refine JC.drawD ([(b10, Obj.cells ⟨[.int .i64 (partN s.ns x.a (mnP n s.ns x 3) true : Int), .int .i64 (partN s.ns x.b (mnP n s.ns x 3) true : Int), .int .i64 (partN s.ns x.c (mnP n s.ns x 3) true : Int)]⟩ 104 (0, 0))] :: L) [(4, 0), (0, 1), (0, 2), (4, 3), (4, 4), (3, 5), (0, 6), (2, 7), (0, 8)] (by kernel_rfl) (by kernel_rfl) ?_
          refine JD.ld hΓ (fun w hw => H.sel (l := [_, _, _, _, _, _, _]) (M := L) hw [4]) rc1.tl ?_
          refine JD.ev hΓ ?_
          refine JD.ev hΓ ?_
          refine JD.ld hΓ (fun w hw => H.sel (l := [_, _, _, _, _, _, _]) (M := L) hw [4]) rc2.tl ?_
          refine JD.ld hΓ (fun w hw => H.sel (l := [_, _, _, _, _, _, _]) (M := L) hw [4]) Rd.hd ?_
          refine JD.callvd eChC rfl rfl rfl (fun w hw => ih (n - (mnP n s.ns x 3 + 1)) (by omega) _ s1 (partT s.ns x (mnP n s.ns x 3) true) rfl ad1.ok ((xl _).ext ad1.ext) ((xf _).ext ad1.ext (xl _)) (by omega) in1 (by rw [hG1]; exact hGb _) hw r1.tl.tl.tl r2.tl.tl.tl) ?_
          rintro _ _ ⟨s2, y2, rfl, rfl, ad2, it2, in2⟩
          have hl2 := in2.len lv ad2.ok.wf h20
          have e12 := ad1.ext.trans ad2.ext
          have k1 := it1.from ad1.ok.wf ((xl _).ext ad1.ext) ((xf _).ext ad1.ext (xl _))
          rw [← ad2.ext.at_ y1 it1.lt] at k1
          have k2 := it2.from ad2.ok.wf ((xl _).ext e12) ((xf _).ext e12 (xl _))
          have y1l : y1 < s2.ns.length := Nat.lt_of_lt_of_le it1.lt ad2.ext.le
          refine ⟨fun w hw => H.sel (l := [_, _, _, _, _, _, _]) (M := L) hw [4], ?_⟩
          refine JD.bd hΓ ?_
          refine JD.callvx eAdd rfl rfl rfl (fun w hw => add_new ad2.ok ⟨mnP n s.ns x 3, y1, y2⟩ hp1 y1l it2.lt k1 k2 (by omega) hw) ?_
          rintro _ _ ⟨s3, y3, rfl, rfl, ad3, fn3, hnw⟩
          have l3 := ad3.le
          have e23 := ad2.ext.trans ad3.ext
          have e13 := e12.trans ad3.ext
          have so3 := ad3.ok
          have hite : Ite n s3.ns x y3 := Ite.join so3.wf (hx.ext e13) hp1 (by rw [partT_ext e13 _ hx]; exact it1.ext ad1.ok.wf e23 ((xl _).ext ad1.ext)) (by rw [partT_ext e13 _ hx]; exact it2.ext ad2.ok.wf ad3.ext ((xl _).ext e12)) ad3.lt fn3
          have in3 : InG n Φ s3.ns s0 := in2.ext ad2.ok.wf ad3.ext (hnw.imp id fun g => ⟨g, l3⟩) (by
            have e : fn n s3.ns y3 = iteF n s.ns x := by rw [← iteF_ext hwf e13 hx]; exact funext fun α => hite.eq α
            rw [e]; exact hG0)
          have sm3 := so3.sm
          have mm3 := so3.mm
          refine JD.ev hΓ ?_
          refine JD.nil ?_
          unfold sF stO
          simp only [List.cons_append, List.nil_append]
          repeat' first
            | (refine J.isJ ?_; first | (first | (refine J.o 4 ?_; first | refine J.lR hΓ ?_ (hr := rc1.tl.tl.tl.tl.tl.tl.tl) | refine J.lR hΓ ?_ (hr := Rd.hd.tl.tl.tl.tl.tl.tl)) | (refine J.o 9 ?_; refine J.perm br3 ?_; refine J.mup (a := x) (ev := evI) y3 kT ekT_inj mm3 hkey hΓ (fun h4 mt4 => ?_))) | (first | (refine J.o 0 ?_; refine J.ev' hΓ ?_) | refine J.nil ?_ | refine J.kd ?_ | (refine J.o 4 ?_; first | refine J.lT default hΓ ?_ | refine J.lR hΓ ?_) | (refine J.o 3 ?_; first | refine J.iA hΓ ?_ | refine J.iJ hΓ ?_ | refine J.fP hΓ ?_ | refine J.ev' hΓ ?_) | (refine J.o 1 ?_; first | refine J.ad ?_) | (refine J.o 5 ?_; first | refine J.t0 hΓ ?_ | refine J.t1 hΓ ?_) | (refine J.o 6 ?_; refine J.bx (fun _ => ?_)) | (refine J.o 7 ?_; refine J.al hΓ (fun _ => ?_)) | (refine J.o 10 ?_; refine J.ev' hΓ ?_) | (refine J.o 11 ?_; refine J.ev' hΓ ?_)) | ((fail_if_success refine J.wt ?_); refine J.gc rfl rfl (fun hc => ?_) (fun hc => ?_) <;> ((try simp only [decide_eq_true_eq, decide_eq_false_iff_not, beq_iff_eq, beq_eq_false_iff_ne, bne_iff_ne, bne_eq_false_iff_eq, Bool.not_eq_true', Bool.not_eq_false', Bool.not_eq_true, Bool.not_eq_false] at hc) <;> first | (first | (exact absurd rfl hc) | (exfalso; omega) | (exact absurd (hc.symm.trans (by assumption : _ = false)) (by decide)) | (exact absurd (hc.symm.trans (by assumption : _ = true)) (by decide))) | skip)))
            | (first | refine JC.seq ?_ | refine JC.region ?_ | refine JC.block ?_ | refine JC.ret ?_ | refine JC.exit ?_ | refine JC.skip ?_ | refine thenK.nn ?_ | refine thenK.r ?_ | refine thenK.x ?_ | refine blockK.nn ?_ | refine blockK.r ?_ | refine blockK.hit rfl ?_ | refine JC.condT rfl ?_ | refine JC.condF rfl ?_ | (refine JC.cond rfl (fun hc => ?_) (fun hc => ?_) <;> ((try simp only [decide_eq_true_eq, decide_eq_false_iff_not, beq_iff_eq, beq_eq_false_iff_ne, bne_iff_ne, bne_eq_false_iff_eq, Bool.not_eq_true', Bool.not_eq_false', Bool.not_eq_true, Bool.not_eq_false] at hc) <;> first | (first | (exact absurd rfl hc) | (exfalso; omega) | (exact absurd (hc.symm.trans (by assumption : _ = false)) (by decide)) | (exact absurd (hc.symm.trans (by assumption : _ = true)) (by decide))) | skip)) | refine drawK.nn ?_ | refine loopK.x ?_)
            | ((refine JC.drawO [(1,0),(0,1),(0,2),(1,3),(1,4),(0,5),(2,6)] (by decide +kernel) (by decide +kernel) ?_))
            | fail
          all_goals first | (exfalso; omega) | skip
          refine ret1f rfl rfl rfl (fun w1 hw => ⟨_, _, rfl, H.sel (l := [_, _, _, _, _, _, _]) (M := L) hw [1, 2, 3, 0], ⟨s3.an, s3.cn, s3.ns, s3.hN, s3.u, s3.hU, mput s3.m x y3, h4⟩, y3, rfl, rfl, ⟨⟨so3.n8, so3.no, so3.wf, so3.sm, so3.ow, so3.um, so3.uk, mt4, so3.mo.put (hx.ext e13) hite⟩, e13, by show s3.ns.length ≤ _; omega, ad3.lt⟩, hite, in3⟩)
        ·
          repeat' first
            | (refine J.isJ ?_; first | (first | (refine J.o 12 ?_; refine J.xI hΓ ?_) | (refine J.o 4 ?_; first | refine J.lR hΓ ?_ (hr := rc1.tl.tl.tl.tl.tl.tl.tl)) | (refine J.fc 51 ?_; refine J.call0 ePart rfl rfl (fun w hw => cPart w _ hw Rd.hd.tl.tl.tl RdH.hd.tl.tl.tl.tl x.a false hx1) ?_) | (refine J.fc 51 ?_; refine J.call0 ePart rfl rfl (fun w hw => cPart w _ hw Rd.hd.tl.tl.tl RdH.hd.tl.tl.tl.tl x.a true hx1) ?_)) | (first | (refine J.o 0 ?_; refine J.ev' hΓ ?_) | refine J.nil ?_ | refine J.kd ?_ | (refine J.o 4 ?_; first | refine J.lT default hΓ ?_ | refine J.lR hΓ ?_) | (refine J.o 3 ?_; first | refine J.iA hΓ ?_ | refine J.iJ hΓ ?_ | refine J.fP hΓ ?_ | refine J.ev' hΓ ?_) | (refine J.o 1 ?_; first | refine J.ad ?_) | (refine J.o 5 ?_; first | refine J.t0 hΓ ?_ | refine J.t1 hΓ ?_) | (refine J.o 6 ?_; refine J.bx (fun _ => ?_)) | (refine J.o 7 ?_; refine J.al hΓ (fun _ => ?_)) | (refine J.o 10 ?_; refine J.ev' hΓ ?_) | (refine J.o 11 ?_; refine J.ev' hΓ ?_)) | ((fail_if_success refine J.wt ?_); refine J.gc rfl rfl (fun hc => ?_) (fun hc => ?_) <;> ((try simp only [decide_eq_true_eq, decide_eq_false_iff_not, beq_iff_eq, beq_eq_false_iff_ne, bne_iff_ne, bne_eq_false_iff_eq, Bool.not_eq_true', Bool.not_eq_false', Bool.not_eq_true, Bool.not_eq_false] at hc) <;> first | (first | (exact absurd rfl hc) | (exfalso; omega) | (exact absurd (hc.symm.trans (by assumption : _ = false)) (by decide)) | (exact absurd (hc.symm.trans (by assumption : _ = true)) (by decide))) | skip)))
            | (first | refine JC.seq ?_ | refine JC.region ?_ | refine JC.block ?_ | refine JC.ret ?_ | refine JC.exit ?_ | refine JC.skip ?_ | refine thenK.nn ?_ | refine thenK.r ?_ | refine thenK.x ?_ | refine blockK.nn ?_ | refine blockK.r ?_ | refine blockK.hit rfl ?_ | refine JC.condT rfl ?_ | refine JC.condF rfl ?_ | (refine JC.cond rfl (fun hc => ?_) (fun hc => ?_) <;> ((try simp only [decide_eq_true_eq, decide_eq_false_iff_not, beq_iff_eq, beq_eq_false_iff_ne, bne_iff_ne, bne_eq_false_iff_eq, Bool.not_eq_true', Bool.not_eq_false', Bool.not_eq_true, Bool.not_eq_false] at hc) <;> first | (first | (exact absurd rfl hc) | (exfalso; omega) | (exact absurd (hc.symm.trans (by assumption : _ = false)) (by decide)) | (exact absurd (hc.symm.trans (by assumption : _ = true)) (by decide))) | skip)) | refine drawK.nn ?_ | refine loopK.x ?_)
            | ((refine JC.drawO [(0,0),(0,1),(1,2),(0,3),(0,4),(1,6),(0,7),(0,8),(1,5),(0,10),(1,9),(2,11),(0,12),(2,13)] (by kernel_rfl) (by kernel_rfl) ?_))
            | fail
          all_goals first | (exfalso; omega) | skip
          refine loopK.nn (m2 - 1) (by omega) (by repeat (first | refine Ag.upd rfl ?_ | exact Ag.hv)) ⟨1, rfl, by omega, rfl⟩
        ·
          repeat' first
            | (refine J.isJ ?_; first | (first | (refine J.o 12 ?_; refine J.xI hΓ ?_) | (refine J.o 4 ?_; first | refine J.lR hΓ ?_ (hr := rc1.tl.tl.tl.tl.tl.tl.tl)) | (refine J.fc 51 ?_; refine J.call0 ePart rfl rfl (fun w hw => cPart w _ hw Rd.hd.tl.tl.tl RdH.hd.tl.tl.tl.tl x.b false hx2) ?_) | (refine J.fc 51 ?_; refine J.call0 ePart rfl rfl (fun w hw => cPart w _ hw Rd.hd.tl.tl.tl RdH.hd.tl.tl.tl.tl x.b true hx2) ?_)) | (first | (refine J.o 0 ?_; refine J.ev' hΓ ?_) | refine J.nil ?_ | refine J.kd ?_ | (refine J.o 4 ?_; first | refine J.lT default hΓ ?_ | refine J.lR hΓ ?_) | (refine J.o 3 ?_; first | refine J.iA hΓ ?_ | refine J.iJ hΓ ?_ | refine J.fP hΓ ?_ | refine J.ev' hΓ ?_) | (refine J.o 1 ?_; first | refine J.ad ?_) | (refine J.o 5 ?_; first | refine J.t0 hΓ ?_ | refine J.t1 hΓ ?_) | (refine J.o 6 ?_; refine J.bx (fun _ => ?_)) | (refine J.o 7 ?_; refine J.al hΓ (fun _ => ?_)) | (refine J.o 10 ?_; refine J.ev' hΓ ?_) | (refine J.o 11 ?_; refine J.ev' hΓ ?_)) | ((fail_if_success refine J.wt ?_); refine J.gc rfl rfl (fun hc => ?_) (fun hc => ?_) <;> ((try simp only [decide_eq_true_eq, decide_eq_false_iff_not, beq_iff_eq, beq_eq_false_iff_ne, bne_iff_ne, bne_eq_false_iff_eq, Bool.not_eq_true', Bool.not_eq_false', Bool.not_eq_true, Bool.not_eq_false] at hc) <;> first | (first | (exact absurd rfl hc) | (exfalso; omega) | (exact absurd (hc.symm.trans (by assumption : _ = false)) (by decide)) | (exact absurd (hc.symm.trans (by assumption : _ = true)) (by decide))) | skip)))
            | (first | refine JC.seq ?_ | refine JC.region ?_ | refine JC.block ?_ | refine JC.ret ?_ | refine JC.exit ?_ | refine JC.skip ?_ | refine thenK.nn ?_ | refine thenK.r ?_ | refine thenK.x ?_ | refine blockK.nn ?_ | refine blockK.r ?_ | refine blockK.hit rfl ?_ | refine JC.condT rfl ?_ | refine JC.condF rfl ?_ | (refine JC.cond rfl (fun hc => ?_) (fun hc => ?_) <;> ((try simp only [decide_eq_true_eq, decide_eq_false_iff_not, beq_iff_eq, beq_eq_false_iff_ne, bne_iff_ne, bne_eq_false_iff_eq, Bool.not_eq_true', Bool.not_eq_false', Bool.not_eq_true, Bool.not_eq_false] at hc) <;> first | (first | (exact absurd rfl hc) | (exfalso; omega) | (exact absurd (hc.symm.trans (by assumption : _ = false)) (by decide)) | (exact absurd (hc.symm.trans (by assumption : _ = true)) (by decide))) | skip)) | refine drawK.nn ?_ | refine loopK.x ?_)
            | ((refine JC.drawO [(0,0),(0,1),(1,2),(0,3),(0,4),(1,6),(0,7),(0,8),(1,5),(0,10),(1,9),(2,11),(0,12),(2,13)] (by kernel_rfl) (by kernel_rfl) ?_))
            | fail
          all_goals first | (exfalso; omega) | skip
          refine loopK.nn (m2 - 1) (by omega) (by repeat (first | refine Ag.upd rfl ?_ | exact Ag.hv)) ⟨2, rfl, by omega, rfl⟩
        ·
          repeat' first
            | (refine J.isJ ?_; first | (first | (refine J.o 12 ?_; refine J.xI hΓ ?_) | (refine J.o 4 ?_; first | refine J.lR hΓ ?_ (hr := rc1.tl.tl.tl.tl.tl.tl.tl)) | (refine J.fc 51 ?_; refine J.call0 ePart rfl rfl (fun w hw => cPart w _ hw Rd.hd.tl.tl.tl RdH.hd.tl.tl.tl.tl x.c false hx3) ?_) | (refine J.fc 51 ?_; refine J.call0 ePart rfl rfl (fun w hw => cPart w _ hw Rd.hd.tl.tl.tl RdH.hd.tl.tl.tl.tl x.c true hx3) ?_)) | (first | (refine J.o 0 ?_; refine J.ev' hΓ ?_) | refine J.nil ?_ | refine J.kd ?_ | (refine J.o 4 ?_; first | refine J.lT default hΓ ?_ | refine J.lR hΓ ?_) | (refine J.o 3 ?_; first | refine J.iA hΓ ?_ | refine J.iJ hΓ ?_ | refine J.fP hΓ ?_ | refine J.ev' hΓ ?_) | (refine J.o 1 ?_; first | refine J.ad ?_) | (refine J.o 5 ?_; first | refine J.t0 hΓ ?_ | refine J.t1 hΓ ?_) | (refine J.o 6 ?_; refine J.bx (fun _ => ?_)) | (refine J.o 7 ?_; refine J.al hΓ (fun _ => ?_)) | (refine J.o 10 ?_; refine J.ev' hΓ ?_) | (refine J.o 11 ?_; refine J.ev' hΓ ?_)) | ((fail_if_success refine J.wt ?_); refine J.gc rfl rfl (fun hc => ?_) (fun hc => ?_) <;> ((try simp only [decide_eq_true_eq, decide_eq_false_iff_not, beq_iff_eq, beq_eq_false_iff_ne, bne_iff_ne, bne_eq_false_iff_eq, Bool.not_eq_true', Bool.not_eq_false', Bool.not_eq_true, Bool.not_eq_false] at hc) <;> first | (first | (exact absurd rfl hc) | (exfalso; omega) | (exact absurd (hc.symm.trans (by assumption : _ = false)) (by decide)) | (exact absurd (hc.symm.trans (by assumption : _ = true)) (by decide))) | skip)))
            | (first | refine JC.seq ?_ | refine JC.region ?_ | refine JC.block ?_ | refine JC.ret ?_ | refine JC.exit ?_ | refine JC.skip ?_ | refine thenK.nn ?_ | refine thenK.r ?_ | refine thenK.x ?_ | refine blockK.nn ?_ | refine blockK.r ?_ | refine blockK.hit rfl ?_ | refine JC.condT rfl ?_ | refine JC.condF rfl ?_ | (refine JC.cond rfl (fun hc => ?_) (fun hc => ?_) <;> ((try simp only [decide_eq_true_eq, decide_eq_false_iff_not, beq_iff_eq, beq_eq_false_iff_ne, bne_iff_ne, bne_eq_false_iff_eq, Bool.not_eq_true', Bool.not_eq_false', Bool.not_eq_true, Bool.not_eq_false] at hc) <;> first | (first | (exact absurd rfl hc) | (exfalso; omega) | (exact absurd (hc.symm.trans (by assumption : _ = false)) (by decide)) | (exact absurd (hc.symm.trans (by assumption : _ = true)) (by decide))) | skip)) | refine drawK.nn ?_ | refine loopK.x ?_)
            | ((refine JC.drawO [(0,0),(0,1),(1,2),(0,3),(0,4),(1,6),(0,7),(0,8),(1,5),(0,10),(1,9),(2,11),(0,12),(2,13)] (by kernel_rfl) (by kernel_rfl) ?_))
            | fail
          all_goals first | (exfalso; omega) | skip
          refine loopK.nn (m2 - 1) (by omega) (by repeat (first | refine Ag.upd rfl ?_ | exact Ag.hv)) ⟨3, rfl, by omega, rfl⟩
      ·
        repeat' first
          | (refine J.isJ ?_; first | (first | (refine J.o 12 ?_; refine J.xI hΓ ?_) | (refine J.o 4 ?_; first | refine J.lR hΓ ?_ (hr := rc1.tl.tl.tl.tl.tl) | refine J.lT default hΓ ?_ (hs := hsl) (hr := RdH.hd.tl.tl))) | (first | (refine J.o 0 ?_; refine J.ev' hΓ ?_) | refine J.nil ?_ | refine J.kd ?_ | (refine J.o 4 ?_; first | refine J.lT default hΓ ?_ | refine J.lR hΓ ?_) | (refine J.o 3 ?_; first | refine J.iA hΓ ?_ | refine J.iJ hΓ ?_ | refine J.fP hΓ ?_ | refine J.ev' hΓ ?_) | (refine J.o 1 ?_; first | refine J.ad ?_) | (refine J.o 5 ?_; first | refine J.t0 hΓ ?_ | refine J.t1 hΓ ?_) | (refine J.o 6 ?_; refine J.bx (fun _ => ?_)) | (refine J.o 7 ?_; refine J.al hΓ (fun _ => ?_)) | (refine J.o 10 ?_; refine J.ev' hΓ ?_) | (refine J.o 11 ?_; refine J.ev' hΓ ?_)) | ((fail_if_success refine J.wt ?_); refine J.gc rfl rfl (fun hc => ?_) (fun hc => ?_) <;> ((try simp only [decide_eq_true_eq, decide_eq_false_iff_not, beq_iff_eq, beq_eq_false_iff_ne, bne_iff_ne, bne_eq_false_iff_eq, Bool.not_eq_true', Bool.not_eq_false', Bool.not_eq_true, Bool.not_eq_false] at hc) <;> first | (first | (exact absurd rfl hc) | (exfalso; omega) | (exact absurd (hc.symm.trans (by assumption : _ = false)) (by decide)) | (exact absurd (hc.symm.trans (by assumption : _ = true)) (by decide))) | skip)))
          | (first | refine JC.seq ?_ | refine JC.region ?_ | refine JC.block ?_ | refine JC.ret ?_ | refine JC.exit ?_ | refine JC.skip ?_ | refine thenK.nn ?_ | refine thenK.r ?_ | refine thenK.x ?_ | refine blockK.nn ?_ | refine blockK.r ?_ | refine blockK.hit rfl ?_ | refine JC.condT rfl ?_ | refine JC.condF rfl ?_ | (refine JC.cond rfl (fun hc => ?_) (fun hc => ?_) <;> ((try simp only [decide_eq_true_eq, decide_eq_false_iff_not, beq_iff_eq, beq_eq_false_iff_ne, bne_iff_ne, bne_eq_false_iff_eq, Bool.not_eq_true', Bool.not_eq_false', Bool.not_eq_true, Bool.not_eq_false] at hc) <;> first | (first | (exact absurd rfl hc) | (exfalso; omega) | (exact absurd (hc.symm.trans (by assumption : _ = false)) (by decide)) | (exact absurd (hc.symm.trans (by assumption : _ = true)) (by decide))) | skip)) | refine drawK.nn ?_ | refine loopK.x ?_)
          | (fail)
          | fail
        all_goals first | (exfalso; omega) | skip
        refine loopK.nn (m1 - 1) (by omega) (by repeat (first | refine Ag.upd rfl ?_ | exact Ag.hv)) ⟨1, rfl, by omega, min_cast _ _, rfl⟩
      ·
        repeat' first
          | (refine J.isJ ?_; first | (first | (refine J.o 12 ?_; refine J.xI hΓ ?_) | (refine J.o 4 ?_; first | refine J.lR hΓ ?_ (hr := rc1.tl.tl.tl.tl.tl) | refine J.lT default hΓ ?_ (hs := hsl) (hr := RdH.hd.tl.tl))) | (first | (refine J.o 0 ?_; refine J.ev' hΓ ?_) | refine J.nil ?_ | refine J.kd ?_ | (refine J.o 4 ?_; first | refine J.lT default hΓ ?_ | refine J.lR hΓ ?_) | (refine J.o 3 ?_; first | refine J.iA hΓ ?_ | refine J.iJ hΓ ?_ | refine J.fP hΓ ?_ | refine J.ev' hΓ ?_) | (refine J.o 1 ?_; first | refine J.ad ?_) | (refine J.o 5 ?_; first | refine J.t0 hΓ ?_ | refine J.t1 hΓ ?_) | (refine J.o 6 ?_; refine J.bx (fun _ => ?_)) | (refine J.o 7 ?_; refine J.al hΓ (fun _ => ?_)) | (refine J.o 10 ?_; refine J.ev' hΓ ?_) | (refine J.o 11 ?_; refine J.ev' hΓ ?_)) | ((fail_if_success refine J.wt ?_); refine J.gc rfl rfl (fun hc => ?_) (fun hc => ?_) <;> ((try simp only [decide_eq_true_eq, decide_eq_false_iff_not, beq_iff_eq, beq_eq_false_iff_ne, bne_iff_ne, bne_eq_false_iff_eq, Bool.not_eq_true', Bool.not_eq_false', Bool.not_eq_true, Bool.not_eq_false] at hc) <;> first | (first | (exact absurd rfl hc) | (exfalso; omega) | (exact absurd (hc.symm.trans (by assumption : _ = false)) (by decide)) | (exact absurd (hc.symm.trans (by assumption : _ = true)) (by decide))) | skip)))
          | (first | refine JC.seq ?_ | refine JC.region ?_ | refine JC.block ?_ | refine JC.ret ?_ | refine JC.exit ?_ | refine JC.skip ?_ | refine thenK.nn ?_ | refine thenK.r ?_ | refine thenK.x ?_ | refine blockK.nn ?_ | refine blockK.r ?_ | refine blockK.hit rfl ?_ | refine JC.condT rfl ?_ | refine JC.condF rfl ?_ | (refine JC.cond rfl (fun hc => ?_) (fun hc => ?_) <;> ((try simp only [decide_eq_true_eq, decide_eq_false_iff_not, beq_iff_eq, beq_eq_false_iff_ne, bne_iff_ne, bne_eq_false_iff_eq, Bool.not_eq_true', Bool.not_eq_false', Bool.not_eq_true, Bool.not_eq_false] at hc) <;> first | (first | (exact absurd rfl hc) | (exfalso; omega) | (exact absurd (hc.symm.trans (by assumption : _ = false)) (by decide)) | (exact absurd (hc.symm.trans (by assumption : _ = true)) (by decide))) | skip)) | refine drawK.nn ?_ | refine loopK.x ?_)
          | (fail)
          | fail
        all_goals first | (exfalso; omega) | skip
        refine loopK.nn (m1 - 1) (by omega) (by repeat (first | refine Ag.upd rfl ?_ | exact Ag.hv)) ⟨2, rfl, by omega, min_cast _ _, rfl⟩
      ·
        repeat' first
          | (refine J.isJ ?_; first | (first | (refine J.o 12 ?_; refine J.xI hΓ ?_) | (refine J.o 4 ?_; first | refine J.lR hΓ ?_ (hr := rc1.tl.tl.tl.tl.tl) | refine J.lT default hΓ ?_ (hs := hsl) (hr := RdH.hd.tl.tl))) | (first | (refine J.o 0 ?_; refine J.ev' hΓ ?_) | refine J.nil ?_ | refine J.kd ?_ | (refine J.o 4 ?_; first | refine J.lT default hΓ ?_ | refine J.lR hΓ ?_) | (refine J.o 3 ?_; first | refine J.iA hΓ ?_ | refine J.iJ hΓ ?_ | refine J.fP hΓ ?_ | refine J.ev' hΓ ?_) | (refine J.o 1 ?_; first | refine J.ad ?_) | (refine J.o 5 ?_; first | refine J.t0 hΓ ?_ | refine J.t1 hΓ ?_) | (refine J.o 6 ?_; refine J.bx (fun _ => ?_)) | (refine J.o 7 ?_; refine J.al hΓ (fun _ => ?_)) | (refine J.o 10 ?_; refine J.ev' hΓ ?_) | (refine J.o 11 ?_; refine J.ev' hΓ ?_)) | ((fail_if_success refine J.wt ?_); refine J.gc rfl rfl (fun hc => ?_) (fun hc => ?_) <;> ((try simp only [decide_eq_true_eq, decide_eq_false_iff_not, beq_iff_eq, beq_eq_false_iff_ne, bne_iff_ne, bne_eq_false_iff_eq, Bool.not_eq_true', Bool.not_eq_false', Bool.not_eq_true, Bool.not_eq_false] at hc) <;> first | (first | (exact absurd rfl hc) | (exfalso; omega) | (exact absurd (hc.symm.trans (by assumption : _ = false)) (by decide)) | (exact absurd (hc.symm.trans (by assumption : _ = true)) (by decide))) | skip)))
          | (first | refine JC.seq ?_ | refine JC.region ?_ | refine JC.block ?_ | refine JC.ret ?_ | refine JC.exit ?_ | refine JC.skip ?_ | refine thenK.nn ?_ | refine thenK.r ?_ | refine thenK.x ?_ | refine blockK.nn ?_ | refine blockK.r ?_ | refine blockK.hit rfl ?_ | refine JC.condT rfl ?_ | refine JC.condF rfl ?_ | (refine JC.cond rfl (fun hc => ?_) (fun hc => ?_) <;> ((try simp only [decide_eq_true_eq, decide_eq_false_iff_not, beq_iff_eq, beq_eq_false_iff_ne, bne_iff_ne, bne_eq_false_iff_eq, Bool.not_eq_true', Bool.not_eq_false', Bool.not_eq_true, Bool.not_eq_false] at hc) <;> first | (first | (exact absurd rfl hc) | (exfalso; omega) | (exact absurd (hc.symm.trans (by assumption : _ = false)) (by decide)) | (exact absurd (hc.symm.trans (by assumption : _ = true)) (by decide))) | skip)) | refine drawK.nn ?_ | refine loopK.x ?_)
          | (fail)
          | fail
        all_goals first | (exfalso; omega) | skip
        refine loopK.nn (m1 - 1) (by omega) (by repeat (first | refine Ag.upd rfl ?_ | exact Ag.hv)) ⟨3, rfl, by omega, min_cast _ _, rfl⟩
theorem choose_lev {n : Nat} {K : KS} {s : SS} (so : SOk n K s) (x : T3) (hx : x.lt s.ns.length) {c : Nat} {Φ : Nat → List ((Nat → Bool) → Bool)} (lv : Lev n Φ c) (hG : InL n Φ 0 (iteF n s.ns x)) (hfull : s.ns.length + c < 1048576) {w0 w : World} {R : Heap} {L : List Heap} {b : Nat} (hw : H w0 R (sF K b s ++ L) w) :
    Calls Tryz.prog 32 #[.pointer (some ⟨b, 0, none⟩), .int .i64 (x.a : Int), .int .i64 (x.b : Int), .int .i64 (x.c : Int)] w fun e w' => ∃ v L', e = .returned v ∧ H w0 R L' w' ∧ ∃ s' y, v = .int .i64 ((y : Nat) : Int) ∧ L' = sF K b s' ++ L ∧ Adds n K s s' c y ∧ Ite n s'.ns x y := by
  have hf : x.from s.ns 0 := ⟨Nat.zero_le _, Nat.zero_le _, Nat.zero_le _⟩
  unfold sF at hw
  simp only [List.cons_append, List.nil_append] at hw
  refine calls_in Tryz.func32 Tryz.ntmps32 rfl rfl (hw) ?_
  repeat' first
    | (refine J.isJ ?_; first | (first | (refine J.o 6 ?_; refine J.bx (fun c1 => ?_)) | (refine J.o 7 ?_; refine J.al hΓ (fun c2 => ?_)) | (refine J.o 14 ?_; refine J.mf hΓ ?_) | (refine J.o 9 ?_; refine J.callvx eChC rfl rfl rfl (fun w hw => chL_any n K b c1 c2 lv so.wf.two hfull n 0 s x (by omega) so hx hf (Nat.le_refl _) (InG.start n Φ s.ns) hG (L := [(c2, fnC c1 c2)] :: [(c1, ptrS b)] :: L) (H.sel (l := [_, _, _, _, _, _]) (M := L) hw [2, 3, 4, 5, 0, 1]) (Rd.hd.tl) Rd.hd) ?_; rintro _ _ ⟨s1, y1, rfl, rfl, ad1, it1, in1⟩; have hl1 := in1.len lv ad1.ok.wf so.wf.two)) | (first | (refine J.o 0 ?_; refine J.ev' hΓ ?_) | refine J.nil ?_ | (refine J.o 4 ?_; first | refine J.lR hΓ ?_) | (refine J.o 3 ?_; first | refine J.ev' hΓ ?_) | (refine J.o 5 ?_; first | refine J.t0 hΓ ?_) | (refine J.o 6 ?_; refine J.bx (fun _ => ?_)) | (refine J.o 7 ?_; refine J.al hΓ (fun _ => ?_)) | (refine J.o 8 ?_; refine J.bd hΓ ?_) | (refine J.o 10 ?_; refine J.ev' hΓ ?_) | (refine J.o 11 ?_; refine J.ev' hΓ ?_) | (refine J.o 14 ?_; refine J.mf hΓ ?_)))
    | (first | refine JC.seq ?_ | refine JC.region ?_ | refine JC.ret ?_ | refine thenK.nn ?_)
    | (fail)
    | fail
  refine ret1f rfl rfl rfl (fun w1 hw => ⟨_, _, rfl, H.sel (l := [_, _, _, _, _, _]) (M := L) hw [0, 1, 2, 3], s1, y1, rfl, rfl, ⟨ad1.ok, ad1.ext, hl1, ad1.lt⟩, it1⟩)
end Go.Proofs.YtbhgahjeocnfcaaGreat
namespace Go.Proofs.YtbhgahjeocnfcaaGreat
open Go Go.Cx
set_option linter.unusedVariables false
set_option linter.unusedSimpArgs false
theorem flat_one {α : Type} (Φ : Nat → List α) (c : Nat) (h : ∀ j, (Φ j).length ≤ c) : ∀ n, ((List.range n).flatMap Φ).length ≤ n * c
  | 0 => by simp
  | n + 1 => by
    rw [List.range_succ, List.flatMap_append, List.length_append, List.flatMap_cons, List.flatMap_nil, List.append_nil, Nat.succ_mul]
    exact Nat.add_le_add (flat_one Φ c h n) (h n)
theorem flat_if {α : Type} (k : Nat) (x : List α) : ∀ n, ((List.range n).flatMap fun j => if j = k then x else []).length ≤ x.length
  | 0 => by simp
  | n + 1 => by
    rw [List.range_succ, List.flatMap_append, List.length_append, List.flatMap_cons, List.flatMap_nil, List.append_nil]
    by_cases h : n = k
    · subst h
      rw [if_pos rfl]
      have : ((List.range n).flatMap fun j => if j = n then x else []) = [] := by
        rw [List.flatMap_eq_nil_iff]
        intro j hj
        rw [List.mem_range] at hj
        rw [if_neg (by omega)]
      rw [this]; simp
    · rw [if_neg h]
      exact flat_if k x n
theorem lev_not (n k : Nat) : Lev n (fun j => if j = k then [(fun α : Nat → Bool => !α k)] else []) 1 := by
  refine ⟨fun j f hf i b α hi => ?_, fun j f b hj hf => ?_, flat_if k _ _⟩
  · split at hf
    · rename_i h
      rw [List.mem_singleton.1 hf]
      show (!(up α i b k)) = !(α k)
      rw [up_ne α b (by omega)]
    · cases hf
  · split at hf
    · rename_i h
      rw [List.mem_singleton.1 hf]
      refine .inl fun α β => ?_
      show (!(up α j b k)) = !(up β j b k)
      rw [h, up_eq, up_eq]
    · cases hf
def clF (n : Nat) (P Q : Nat → Bool) (j : Nat) (α : Nat → Bool) : Bool := (List.range n).any fun i => decide (j ≤ i) && (Bool.or (P i && α i) (Q i && !α i))
theorem clF_iff (n : Nat) (P Q : Nat → Bool) (j : Nat) (α : Nat → Bool) : clF n P Q j α = true ↔ ∃ i, i < n ∧ j ≤ i ∧ ((P i = true ∧ α i = true) ∨ (Q i = true ∧ α i = false)) := by
  unfold clF
  rw [List.any_eq_true]
  constructor
  · rintro ⟨i, hi, h⟩
    rw [Bool.and_eq_true, decide_eq_true_iff, Bool.or_eq_true, Bool.and_eq_true, Bool.and_eq_true, Bool.not_eq_true'] at h
    exact ⟨i, List.mem_range.1 hi, h.1, h.2⟩
  · rintro ⟨i, hi, h1, h2⟩
    refine ⟨i, List.mem_range.2 hi, ?_⟩
    rw [Bool.and_eq_true, decide_eq_true_iff, Bool.or_eq_true, Bool.and_eq_true, Bool.and_eq_true, Bool.not_eq_true']
    exact ⟨h1, h2⟩
theorem lev_cl (n : Nat) (P Q : Nat → Bool) : Lev n (fun j => [clF n P Q j]) (n + 1) := by
  refine ⟨fun j f hf i b α hi => ?_, fun j f b hj hf => ?_, by have := flat_one (fun j => [clF n P Q j]) 1 (fun _ => Nat.le_refl _) (n + 1); omega⟩
  · rw [List.mem_singleton.1 hf, Bool.eq_iff_iff, clF_iff, clF_iff]
    refine exists_congr fun q => ?_
    constructor
    · rintro ⟨h1, h2, h3⟩
      rw [up_ne α b (by omega)] at h3
      exact ⟨h1, h2, h3⟩
    · rintro ⟨h1, h2, h3⟩
      rw [up_ne α b (by omega)]
      exact ⟨h1, h2, h3⟩
  · rw [List.mem_singleton.1 hf]
    by_cases hb : (P j = true ∧ b = true) ∨ (Q j = true ∧ b = false)
    · refine .inl fun α β => ?_
      have : ∀ α, clF n P Q j (up α j b) = true := fun α => (clF_iff n P Q j _).2 ⟨j, hj, Nat.le_refl _, by rw [up_eq]; exact hb⟩
      show clF n P Q j (up α j b) = clF n P Q j (up β j b)
      rw [this, this]
    · refine .inr ⟨j + 1, by omega, by omega, List.mem_singleton.2 (funext fun α => ?_)⟩
      rw [Bool.eq_iff_iff, clF_iff, clF_iff]
      refine exists_congr fun q => ?_
      constructor
      · rintro ⟨h1, h2, h3⟩
        have hq : q ≠ j := fun e => by
          rw [e, up_eq] at h3
          exact hb h3
        rw [up_ne α b hq] at h3
        exact ⟨h1, by omega, h3⟩
      · rintro ⟨h1, h2, h3⟩
        rw [up_ne α b (by omega)]
        exact ⟨h1, by omega, h3⟩
end Go.Proofs.YtbhgahjeocnfcaaGreat
namespace Go.Proofs.YtbhgahjeocnfcaaGreat
open Go Go.Cx Go.RowKit
set_option linter.unusedVariables false
set_option linter.unusedSimpArgs false
set_option maxHeartbeats 4000000
attribute [local irreducible] J JC thenK blockK loopK roundK drawK retK QW Qt pel List.set Calls
open Go.Maps Go.Lib
set_option maxRecDepth 8000
attribute [local irreducible] JE Br eK0 eK3 brK pc
def litA (order : List Int) (l : Int) (α : Nat → Bool) : Bool := if l < 0 then !α ((rk order (varI l) 0).getD 0) else α ((rk order (varI l) 0).getD 0)
def clA (order : List Int) (c : List Int) (α : Nat → Bool) : Bool := c.any fun l => litA order l α
def thA (order : List Int) (T : List (List Int)) (α : Nat → Bool) : Bool := T.all fun c => clA order c α
def costT : List (List Int) → Nat
  | [] => 0
  | c :: T => c.length * 20 + 255 + costT T
theorem costT_len : ∀ T : List (List Int), T.length ≤ costT T
  | [] => Nat.le_refl _
  | c :: T => by have := costT_len T; rw [costT, List.length_cons]; omega
theorem costT_app : ∀ (a b : List (List Int)), costT (a ++ b) = costT a + costT b
  | [], b => by rw [List.nil_append, costT, Nat.zero_add]
  | c :: a, b => by rw [List.cons_append, costT, costT, costT_app a b]; omega
theorem clA_s (order : List Int) (c : List Int) {j : Nat} (h : j < c.length) (α : Nat → Bool) : clA order (c.take (j + 1)) α = Bool.or (clA order (c.take j) α) (litA order (c.getD j default) α) := by
  unfold clA; rw [take_g c j h, List.any_append]; simp
theorem thA_s (order : List Int) (vs : List HV) {i : Nat} (h : i < vs.length) (α : Nat → Bool) : thA order ((vs.take (i + 1)).map (·.l)) α = (thA order ((vs.take i).map (·.l)) α && clA order (vs.getD i default).l α) := by
  unfold thA; rw [take_g vs i h, List.map_append, List.all_append]; simp
theorem litA_neg {order : List Int} {l : Int} {k : Nat} {α : Nat → Bool} (h : l < 0) (hk : rk order (varI l) 0 = some k) : litA order l α = !α k := by unfold litA; rw [if_pos h, hk]; rfl
theorem litA_pos {order : List Int} {l : Int} {k : Nat} {α : Nat → Bool} (h : ¬ l < 0) (hk : rk order (varI l) 0 = some k) : litA order l α = α k := by unfold litA; rw [if_neg h, hk]; rfl
theorem RdH.app {R : Heap} {L : List Heap} {h : Heap} (M : List Heap) (r : RdH R L h) : RdH R (M ++ L) h := fun x hx => Rd.app M (r x hx)
theorem rbS2 {R : Heap} (K : KS) (b : Nat) (s : SS) (M : List Heap) : Rd R (sF K b s ++ M) b (.cells ⟨[.slice K.ao K.no K.co, .map (some K.bp), .slice s.an s.ns.length s.cn, .map (some K.bu), .map (some K.bi)]⟩ 72 (0, 0)) := by unfold sF stO; exact Rd.hd
theorem addv_any {n : Nat} {K : KS} {s : SS} (so : SOk n K s) (k : Nat) (hk : k < n) (hfull : s.ns.length + 1 ≤ 1048576) {w0 w : World} {R : Heap} {L : List Heap} {b0 : Nat} (hw : H w0 R (sF K b0 s ++ L) w) :
    Calls Tryz.prog 30 #[.pointer (some ⟨b0, 0, none⟩), ek3 ⟨k, 0, 1⟩] w fun e w' => ∃ v L', e = .returned v ∧ H w0 R L' w' ∧ ∃ s' y, v = .int .i64 ((y : Nat) : Int) ∧ L' = sF K b0 s' ++ L ∧ Res n K s s' 1 y (fun α => α k) := by
  have two := so.wf.two
  refine (add_any so ⟨k, 0, 1⟩ hk (show 0 < s.ns.length by omega) (show 1 < s.ns.length by omega) (show k < (nd s.ns 0).p by rw [so.wf.c0]; exact hk) (show k < (nd s.ns 1).p by rw [so.wf.c1]; exact hk) (by omega) hw).mono ?_
  rintro e w' ⟨v, L', h1, h2, s1, y1, h3, h4, ad1, it1⟩
  refine ⟨v, L', h1, h2, s1, y1, h3, h4, ad1, fun α => ?_⟩
  rw [it1 α]
  show (if α k then fn n s1.ns 1 α else fn n s1.ns 0 α) = α k
  rw [fn_0 ad1.ok.wf, fn_1 ad1.ok.wf]
  cases α k <;> rfl
theorem ch3_any {n : Nat} {K : KS} {s : SS} (so : SOk n K s) (a b c : Nat) (ha : a < s.ns.length) (hb : b < s.ns.length) (hc : c < s.ns.length) (hfull : s.ns.length + (2 ^ n - 1) ≤ 1048576) {w0 w : World} {R : Heap} {L : List Heap} {b0 : Nat} (hw : H w0 R (sF K b0 s ++ L) w) :
    Calls Tryz.prog 32 #[.pointer (some ⟨b0, 0, none⟩), .int .i64 (a : Int), .int .i64 (b : Int), .int .i64 (c : Int)] w fun e w' => ∃ v L', e = .returned v ∧ H w0 R L' w' ∧ ∃ s' y, v = .int .i64 ((y : Nat) : Int) ∧ L' = sF K b0 s' ++ L ∧ Res n K s s' (2 ^ n - 1) y (fun α => if fn n s.ns a α then fn n s.ns b α else fn n s.ns c α) := by
  refine (choose_any so ⟨a, b, c⟩ ⟨ha, hb, hc⟩ hfull hw).mono ?_
  rintro e w' ⟨v, L', h1, h2, s1, y1, h3, h4, ad1, it1⟩
  refine ⟨v, L', h1, h2, s1, y1, h3, h4, ad1, fun α => ?_⟩
  have he := it1.eq α
  dsimp only at he
  rw [he, fn_ext so.wf ad1.ext ha, fn_ext so.wf ad1.ext hb, fn_ext so.wf ad1.ext hc]
theorem ch3_lev {n : Nat} {K : KS} {s : SS} (so : SOk n K s) (a b c : Nat) (ha : a < s.ns.length) (hb : b < s.ns.length) (hc : c < s.ns.length) {m : Nat} {Φ : Nat → List ((Nat → Bool) → Bool)} (lv : Lev n Φ m) {G : (Nat → Bool) → Bool} (hG : ∀ α, (if fn n s.ns a α then fn n s.ns b α else fn n s.ns c α) = G α) (hi : InL n Φ 0 G) (hfull : s.ns.length + m < 1048576) {w0 w : World} {R : Heap} {L : List Heap} {b0 : Nat} (hw : H w0 R (sF K b0 s ++ L) w) :
    Calls Tryz.prog 32 #[.pointer (some ⟨b0, 0, none⟩), .int .i64 (a : Int), .int .i64 (b : Int), .int .i64 (c : Int)] w fun e w' => ∃ v L', e = .returned v ∧ H w0 R L' w' ∧ ∃ s' y, v = .int .i64 ((y : Nat) : Int) ∧ L' = sF K b0 s' ++ L ∧ Res n K s s' m y G := by
  have e : iteF n s.ns ⟨a, b, c⟩ = G := funext hG
  refine (choose_lev so ⟨a, b, c⟩ ⟨ha, hb, hc⟩ lv (by rw [e]; exact hi) hfull hw).mono ?_
  rintro e w' ⟨v, L', h1, h2, s1, y1, h3, h4, ad1, it1⟩
  refine ⟨v, L', h1, h2, s1, y1, h3, h4, ad1, fun α => ?_⟩
  have he := it1.eq α
  dsimp only at he
  rw [he, fn_ext so.wf ad1.ext ha, fn_ext so.wf ad1.ext hb, fn_ext so.wf ad1.ext hc, hG]
def posA (order c : List Int) (i : Nat) : Bool := c.any fun l => !decide (l < 0) && decide (rk order (varI l) 0 = some i)
def negA (order c : List Int) (i : Nat) : Bool := c.any fun l => decide (l < 0) && decide (rk order (varI l) 0 = some i)
theorem clA_cl {order c : List Int} {n : Nat} (h : ∀ l ∈ c, ∃ k, k < n ∧ rk order (varI l) 0 = some k) : clA order c = clF n (posA order c) (negA order c) 0 := by
  funext α
  rw [Bool.eq_iff_iff, clF_iff]
  unfold clA posA negA
  rw [List.any_eq_true]
  constructor
  · rintro ⟨l, hl, ht⟩
    obtain ⟨k, hk, hr⟩ := h l hl
    refine ⟨k, hk, Nat.zero_le _, ?_⟩
    by_cases hn : l < 0
    · rw [litA_neg hn hr] at ht
      refine .inr ⟨List.any_eq_true.2 ⟨l, hl, ?_⟩, by simpa using ht⟩
      rw [decide_eq_true hn, decide_eq_true hr]; rfl
    · rw [litA_pos hn hr] at ht
      refine .inl ⟨List.any_eq_true.2 ⟨l, hl, ?_⟩, ht⟩
      rw [decide_eq_false hn, decide_eq_true hr]; rfl
  · rintro ⟨k, hk, _, ⟨h1, h2⟩ | ⟨h1, h2⟩⟩
    · obtain ⟨l, hl, g⟩ := List.any_eq_true.1 h1
      rw [Bool.and_eq_true, Bool.not_eq_true', decide_eq_false_iff_not, decide_eq_true_iff] at g
      exact ⟨l, hl, by rw [litA_pos g.1 g.2]; exact h2⟩
    · obtain ⟨l, hl, g⟩ := List.any_eq_true.1 h1
      rw [Bool.and_eq_true, decide_eq_true_iff, decide_eq_true_iff] at g
      exact ⟨l, hl, by rw [litA_neg g.1 g.2, h2]; rfl⟩
theorem inl_not (n k : Nat) (hk : k < n) : InL n (fun j => if j = k then [(fun α : Nat → Bool => !α k)] else []) 0 (fun α => !α k) := .inr ⟨k, Nat.zero_le _, by omega, by dsimp only; rw [if_pos rfl]; exact List.mem_cons_self⟩
theorem inl_cl (n : Nat) (P Q : Nat → Bool) : InL n (fun j => [clF n P Q j]) 0 (clF n P Q 0) := .inr ⟨0, Nat.zero_le _, Nat.zero_le _, List.mem_cons_self⟩
theorem eComC : Entr Tryz.prog 29 := Entr.of Tryz.func29 rfl rfl
theorem eCom : Entr Tryz.prog 8 := Entr.of Tryz.func8 rfl rfl
def thO (N : Int) (a : Option Addr) (m cap : Nat) : Obj := .cells ⟨[.int .i64 N, .slice a m cap]⟩ 24 (0, 0)
theorem comC_any {n : Nat} {K : KS} {s : SS} (so : SOk n K s) {order : List Int} {hO hP : Heap} (po : POk K order hO hP) (h8 : n ≤ 8) (N : Int) (a : Option Addr) (cap : Nat) (vs : List HV) (hT : Heap) (ll : LLR a vs hT) (hlit : ∀ v ∈ vs, ∀ l ∈ v.l, ∃ k, rk order (varI l) 0 = some k) (hfull : s.ns.length + costT (vs.map (·.l)) ≤ 1048576) {w0 w : World} {R : Heap} {L : List Heap} {b0 c2 c8 : Nat} (rT : RdH R L hT) (rP : RdH R L hP) (r0 : Rd R L c2 (thO N a vs.length cap)) (r1 : Rd R L c8 (ptrS b0)) (hw : H w0 R (sF K b0 s ++ L) w) :
    Calls Tryz.prog 29 #[.pointer (some ⟨c2, 0, none⟩), .pointer (some ⟨c8, 0, none⟩)] w fun e w' => ∃ v L', e = .returned v ∧ H w0 R L' w' ∧ ∃ s' y, v = .int .i64 ((y : Nat) : Int) ∧ L' = sF K b0 s' ++ L ∧ Res n K s s' (costT (vs.map (·.l))) y (thA order (vs.map (·.l))) := by
  have h2n := pow8 h8
  have hno := so.no
  have hpl := po.len
  have pm := po.pm
  have two := so.wf.two
  unfold thO at r0
  unfold ptrS at r1
  obtain ⟨ho, hi⟩ := ll
  have hctk : ∀ i, i < vs.length → costT ((vs.take (i + 1)).map (·.l)) = costT ((vs.take i).map (·.l)) + ((vs.getD i default).l.length * 20 + 255) := fun i h => by rw [take_g vs i h, List.map_append, costT_app]; rfl
  have hcle : ∀ i, i ≤ vs.length → costT ((vs.take i).map (·.l)) ≤ costT (vs.map (·.l)) := fun i h => by
    have : vs.map (·.l) = (vs.take i).map (·.l) ++ (vs.drop i).map (·.l) := by rw [← List.map_append, List.take_append_drop]
    rw [this, costT_app]; omega
  have hvl := costT_len (vs.map (·.l))
  rw [List.length_map] at hvl
  refine calls_in Tryz.func29 Tryz.ntmps29 rfl rfl (hw) ?_
  repeat' first
    | (refine J.isJ ?_; first | ((refine J.o 4 ?_; first | refine J.lR hΓ ?_ (hr := Rd.app _ r0))) | (first | (refine J.o 0 ?_; refine J.ev' hΓ ?_) | refine J.nil ?_ | (refine J.o 4 ?_; first | refine J.lT default hΓ ?_ | refine J.lR hΓ ?_) | (refine J.o 3 ?_; first | refine J.iJ hΓ ?_ | refine J.ev' hΓ ?_) | (refine J.o 1 ?_; first | refine J.ad ?_) | (refine J.o 8 ?_; refine J.bd hΓ ?_) | (refine J.o 10 ?_; refine J.ev' hΓ ?_) | (refine J.o 11 ?_; refine J.ev' hΓ ?_)))
    | (first | refine JC.seq ?_ | refine JC.region ?_ | refine JC.block ?_ | refine JC.ret ?_ | refine JC.exit ?_ | refine JC.skip ?_ | refine thenK.nn ?_ | refine thenK.x ?_ | refine blockK.nn ?_ | refine blockK.hit rfl ?_ | (refine JC.cond rfl (fun hc => ?_) (fun hc => ?_) <;> ((try simp only [decide_eq_true_eq, decide_eq_false_iff_not, beq_iff_eq, beq_eq_false_iff_ne, bne_iff_ne, bne_eq_false_iff_eq, Bool.not_eq_true', Bool.not_eq_false', Bool.not_eq_true, Bool.not_eq_false] at hc) <;> first | (first | (exact absurd rfl hc) | (exfalso; omega) | (exact absurd (hc.symm.trans (by assumption : _ = false)) (by decide)) | (exact absurd (hc.symm.trans (by assumption : _ = true)) (by decide))) | skip)) | refine drawK.nn ?_ | refine loopK.x ?_)
    | (fail)
    | fail
  all_goals first | (exfalso; omega) | skip
  refine JC.loop (fun i => (Nat.ble 3 i && Nat.ble i 9) || Nat.ble 13 i) (fun m g L' => ∃ i s1 y, g 13 = .int .i64 ((i : Nat) : Int) ∧ g 3 = .int .i64 ((y : Nat) : Int) ∧ i + m = vs.length ∧ Adds n K s s1 (costT ((vs.take i).map (·.l))) y ∧ (∀ α, fn n s1.ns y α = thA order ((vs.take i).map (·.l)) α) ∧ L' = sF K b0 s1 ++ L) vs.length ⟨0, s, 1, rfl, rfl, by omega, (Adds.refl so (by omega)).mono (Nat.zero_le _), fun α => fn_1 so.wf α, rfl⟩ ?_
  rintro m g L' ⟨i, s1, y, e13, e3, him, ad, hfn, rfl⟩
  refine JC.pin 13 e13 ?_
  refine JC.pin 3 e3 ?_
  have adl := ad.le
  have two1 := ad.ok.wf.two
  rcases Nat.lt_or_ge i vs.length with hlt | hge
  ·
    have hc1 := hctk i hlt
    have hc2 := hcle (i + 1) hlt
    have hmv := mem_g vs i hlt
    have hik := hi _ hmv
    have hlv := hlit _ hmv
    repeat' first
      | (refine J.isJ ?_; first | ((refine J.o 4 ?_; first | refine J.lT default hΓ ?_ (hs := ho) (hr := RdH.app _ rT))) | (first | (refine J.o 0 ?_; refine J.ev' hΓ ?_) | refine J.nil ?_ | (refine J.o 4 ?_; first | refine J.lT default hΓ ?_ | refine J.lR hΓ ?_) | (refine J.o 3 ?_; first | refine J.iJ hΓ ?_ | refine J.ev' hΓ ?_) | (refine J.o 1 ?_; first | refine J.ad ?_) | (refine J.o 8 ?_; refine J.bd hΓ ?_) | (refine J.o 10 ?_; refine J.ev' hΓ ?_) | (refine J.o 11 ?_; refine J.ev' hΓ ?_)))
      | (first | refine JC.seq ?_ | refine JC.region ?_ | refine JC.block ?_ | refine JC.ret ?_ | refine JC.exit ?_ | refine JC.skip ?_ | refine thenK.nn ?_ | refine thenK.x ?_ | refine blockK.nn ?_ | refine blockK.hit rfl ?_ | (refine JC.cond rfl (fun hc => ?_) (fun hc => ?_) <;> ((try simp only [decide_eq_true_eq, decide_eq_false_iff_not, beq_iff_eq, beq_eq_false_iff_ne, bne_iff_ne, bne_eq_false_iff_eq, Bool.not_eq_true', Bool.not_eq_false', Bool.not_eq_true, Bool.not_eq_false] at hc) <;> first | (first | (exact absurd rfl hc) | (exfalso; omega) | (exact absurd (hc.symm.trans (by assumption : _ = false)) (by decide)) | (exact absurd (hc.symm.trans (by assumption : _ = true)) (by decide))) | skip)) | refine drawK.nn ?_ | refine loopK.x ?_)
      | (fail)
      | fail
    all_goals first | (exfalso; omega) | skip
    refine JC.loop (fun i => (Nat.ble 6 i && Nat.ble i 9) || (Nat.ble 19 i && Nat.ble i 42)) (fun m2 g2 L' => ∃ j s2 y2, g2 19 = .int .i64 ((j : Nat) : Int) ∧ g2 6 = .int .i64 ((y2 : Nat) : Int) ∧ j + m2 = (vs.getD i default).l.length ∧ Adds n K s1 s2 (j * 20) y2 ∧ (∀ α, fn n s2.ns y2 α = clA order ((vs.getD i default).l.take j) α) ∧ L' = sF K b0 s2 ++ L) (vs.getD i default).l.length ⟨0, s1, 0, rfl, rfl, by omega, (Adds.refl ad.ok (by omega)).mono (Nat.zero_le _), fun α => fn_0 ad.ok.wf α, rfl⟩ ?_
    rintro m2 g2 L' ⟨j, s2, y2, e19, e6, hjm, ad2, hfn2, rfl⟩
    refine JC.pin 19 e19 ?_
    refine JC.pin 6 e6 ?_
    have adl2 := ad2.le
    have two2 := ad2.ok.wf.two
    rcases Nat.lt_or_ge j (vs.getD i default).l.length with hj | hj
    ·
      obtain ⟨k, hk⟩ := hlv _ (mem_g (vs.getD i default).l j hj)
      have hkn : k < n := by obtain ⟨_, h2, _⟩ := rk_some hk; omega
      have hvr : -9223372036854775808 ≤ varI ((vs.getD i default).l.getD j default) ∧ varI ((vs.getD i default).l.getD j default) ≤ 9223372036854775807 := by unfold varI; split <;> (try split) <;> omega
      have hkey := keyI _ hvr
      have hget : mget (order.zipIdx 0) (varI ((vs.getD i default).l.getD j default)) = some k := by rw [mget_zip, hk]
      have hcl := clA_cl (order := order) (c := (vs.getD i default).l.take (j + 1)) (n := n) fun l hl => by
        obtain ⟨q, hq⟩ := hlv l (List.mem_of_mem_take hl)
        have := (rk_some hq).2.1
        exact ⟨q, by omega, hq⟩
      have hN3 : ∀ {s3 : SS} {y3 : Nat}, SOk n K s3 → (∀ α, fn n s3.ns y3 α = α k) → ∀ α, (if fn n s3.ns y3 α then fn n s3.ns 0 α else fn n s3.ns 1 α) = !α k := fun so3 f3 α => by
        rw [f3, fn_0 so3.wf, fn_1 so3.wf]; cases α k <;> rfl
      have hN4 : ∀ {s3 s4 : SS} {y3 y4 m3 m4 : Nat}, (vs.getD i default).l.getD j default < 0 → Adds n K s2 s3 m3 y3 → Adds n K s3 s4 m4 y4 → (∀ α, fn n s3.ns y3 α = α k) → (∀ α, fn n s4.ns y4 α = !α k) → ∀ α, (if fn n s4.ns y4 α then fn n s4.ns 1 α else fn n s4.ns y2 α) = clF n (posA order ((vs.getD i default).l.take (j + 1))) (negA order ((vs.getD i default).l.take (j + 1))) 0 α := fun hg ad3 ad4 f3 f4 α => by
        rw [← hcl, f4, fn_1 ad4.ok.wf, clA_s _ _ hj, litA_neg hg hk, fn_ext ad2.ok.wf (ad3.ext.trans ad4.ext) ad2.lt, hfn2]
        cases α k <;> cases clA order ((vs.getD i default).l.take j) α <;> rfl
      have hN5 : ∀ {s3 : SS} {y3 m3 : Nat}, ¬ (vs.getD i default).l.getD j default < 0 → Adds n K s2 s3 m3 y3 → (∀ α, fn n s3.ns y3 α = α k) → ∀ α, (if fn n s3.ns y3 α then fn n s3.ns 1 α else fn n s3.ns y2 α) = clF n (posA order ((vs.getD i default).l.take (j + 1))) (negA order ((vs.getD i default).l.take (j + 1))) 0 α := fun hg ad3 f3 α => by
        rw [← hcl, f3, fn_1 ad3.ok.wf, clA_s _ _ hj, litA_pos hg hk, fn_ext ad2.ok.wf ad3.ext ad2.lt, hfn2]
        cases α k <;> cases clA order ((vs.getD i default).l.take j) α <;> rfl
      have hjb : j * 20 + 20 ≤ (vs.getD i default).l.length * 20 := by omega
      repeat' first
        | (refine J.isJ ?_; first | (first | (refine J.o 4 ?_; first | refine J.lR hΓ ?_ (hr := Rd.app _ r1) | refine J.lR hΓ ?_ (hr := rbS2 K b0 s2 L) | refine J.lT default hΓ ?_ (hs := hik) (hr := RdH.app _ rT)) | (refine J.fc 31 ?_; refine J.call0 eVarL rfl rfl (fun w hw => varL_any _ w) ?_) | (refine J.o 9 ?_; refine J.lk (a := varI ((vs.getD i default).l.getD j default)) keyedI ekI_inj pm (RdH.app _ rP) hkey hΓ ?_; rw [hget]) | (refine J.fc 30 ?_; refine J.callx eAdd rfl rfl (fun w hw => addv_any ad2.ok k hkn (by omega) hw) ?_; rintro _ _ ⟨s3, y3, rfl, rfl, ad3, f3⟩; have adl3 := ad3.le; have two3 := ad3.ok.wf.two) | (refine J.fc 32 ?_; first | (refine J.callx eCh rfl rfl (fun w hw => ch3_lev ad3.ok y3 0 1 ad3.lt (by omega) (by omega) (lev_not n k) (hN3 ad3.ok f3) (inl_not n k hkn) (by omega) hw) ?_; rintro _ _ ⟨s4, y4, rfl, rfl, ad4, f4⟩; have adl4 := ad4.le; have two4 := ad4.ok.wf.two) | (refine J.callx eCh rfl rfl (fun w hw => ch3_lev ad4.ok y4 1 y2 ad4.lt (by omega) (ad4.old (ad3.old ad2.lt)) (lev_cl n _ _) (hN4 (by omega) ad3 ad4 f3 f4) (inl_cl n _ _) (by omega) hw) ?_; rintro _ _ ⟨s5, y5, rfl, rfl, ad5, f5⟩) | (refine J.callx eCh rfl rfl (fun w hw => ch3_lev ad3.ok y3 1 y2 ad3.lt (by omega) (ad3.old ad2.lt) (lev_cl n _ _) (hN5 (by omega) ad3 f3) (inl_cl n _ _) (by omega) hw) ?_; rintro _ _ ⟨s5, y5, rfl, rfl, ad5, f5⟩))) | (first | (refine J.o 0 ?_; refine J.ev' hΓ ?_) | refine J.nil ?_ | (refine J.o 4 ?_; first | refine J.lT default hΓ ?_ | refine J.lR hΓ ?_) | (refine J.o 3 ?_; first | refine J.iJ hΓ ?_ | refine J.ev' hΓ ?_) | (refine J.o 1 ?_; first | refine J.ad ?_) | (refine J.o 8 ?_; refine J.bd hΓ ?_) | (refine J.o 10 ?_; refine J.ev' hΓ ?_) | (refine J.o 11 ?_; refine J.ev' hΓ ?_)))
        | (first | refine JC.seq ?_ | refine JC.region ?_ | refine JC.block ?_ | refine JC.ret ?_ | refine JC.exit ?_ | refine JC.skip ?_ | refine thenK.nn ?_ | refine thenK.x ?_ | refine blockK.nn ?_ | refine blockK.hit rfl ?_ | (refine JC.cond rfl (fun hc => ?_) (fun hc => ?_) <;> ((try simp only [decide_eq_true_eq, decide_eq_false_iff_not, beq_iff_eq, beq_eq_false_iff_ne, bne_iff_ne, bne_eq_false_iff_eq, Bool.not_eq_true', Bool.not_eq_false', Bool.not_eq_true, Bool.not_eq_false] at hc) <;> first | (first | (exact absurd rfl hc) | (exfalso; omega) | (exact absurd (hc.symm.trans (by assumption : _ = false)) (by decide)) | (exact absurd (hc.symm.trans (by assumption : _ = true)) (by decide))) | skip)) | refine drawK.nn ?_ | refine loopK.x ?_)
        | ((refine JC.drawO [(1,0),(1,1),(0,2),(0,3),(1,4),(0,5),(1,6),(1,7),(0,8),(2,9),(0,10)] (by decide +kernel) (by decide +kernel) ?_))
        | fail
      all_goals first | (exfalso; omega) | skip
      · refine loopK.nn (m2 - 1) (by omega) (by repeat (first | refine Ag.upd rfl ?_ | exact Ag.hv | refine Ag.hv2 (fun i hi => by simp at hi ⊢; omega) ?_)) ⟨j + 1, s5, y5, ?_, rfl, by omega, (((ad2.trans ad3).trans ad4).trans ad5).mono (by omega), fun α => ?_, rfl⟩
        · show Value.int .i64 _ = _; congr 1
        · have h3 := f3 α
          have h4 := f4 α
          have h5 := f5 α
          dsimp only at h3 h4 h5
          rw [h5, hcl]
      · refine loopK.nn (m2 - 1) (by omega) (by repeat (first | refine Ag.upd rfl ?_ | exact Ag.hv | refine Ag.hv2 (fun i hi => by simp at hi ⊢; omega) ?_)) ⟨j + 1, s5, y5, ?_, rfl, by omega, ((ad2.trans ad3).trans ad5).mono (by omega), fun α => ?_, rfl⟩
        · show Value.int .i64 _ = _; congr 1
        · have h3 := f3 α
          have h5 := f5 α
          dsimp only at h3 h5
          rw [h5, hcl]
    ·
      repeat' first
        | (refine J.isJ ?_; first | (first | (refine J.o 4 ?_; refine J.lR hΓ ?_ (hr := Rd.app _ r1)) | (refine J.fc 32 ?_; refine J.callx eCh rfl rfl (fun w hw => ch3_any ad2.ok y y2 0 (ad2.old ad.lt) ad2.lt (by omega) (by omega) hw) ?_; rintro _ _ ⟨s3, y3, rfl, rfl, ad3, f3⟩)) | (first | (refine J.o 0 ?_; refine J.ev' hΓ ?_) | refine J.nil ?_ | (refine J.o 4 ?_; first | refine J.lT default hΓ ?_ | refine J.lR hΓ ?_) | (refine J.o 3 ?_; first | refine J.iJ hΓ ?_ | refine J.ev' hΓ ?_) | (refine J.o 1 ?_; first | refine J.ad ?_) | (refine J.o 8 ?_; refine J.bd hΓ ?_) | (refine J.o 10 ?_; refine J.ev' hΓ ?_) | (refine J.o 11 ?_; refine J.ev' hΓ ?_)))
        | (first | refine JC.seq ?_ | refine JC.region ?_ | refine JC.block ?_ | refine JC.ret ?_ | refine JC.exit ?_ | refine JC.skip ?_ | refine thenK.nn ?_ | refine thenK.x ?_ | refine blockK.nn ?_ | refine blockK.hit rfl ?_ | (refine JC.cond rfl (fun hc => ?_) (fun hc => ?_) <;> ((try simp only [decide_eq_true_eq, decide_eq_false_iff_not, beq_iff_eq, beq_eq_false_iff_ne, bne_iff_ne, bne_eq_false_iff_eq, Bool.not_eq_true', Bool.not_eq_false', Bool.not_eq_true, Bool.not_eq_false] at hc) <;> first | (first | (exact absurd rfl hc) | (exfalso; omega) | (exact absurd (hc.symm.trans (by assumption : _ = false)) (by decide)) | (exact absurd (hc.symm.trans (by assumption : _ = true)) (by decide))) | skip)) | refine drawK.nn ?_ | refine loopK.x ?_)
        | (fail)
        | fail
      all_goals first | (exfalso; omega) | skip
      rw [List.take_of_length_le hj] at hfn2
      have hje : j = (vs.getD i default).l.length := by omega
      subst hje
      refine loopK.nn (m - 1) (by omega) (by repeat (first | refine Ag.upd rfl ?_ | exact Ag.hv | refine Ag.hv2 (fun i hi => by simp at hi ⊢; omega) ?_)) ⟨i + 1, s3, y3, ?_, rfl, by omega, ((ad.trans ad2).trans ad3).mono (by omega), fun α => ?_, rfl⟩
      · show Value.int .i64 _ = _; congr 1
      · have h3 := f3 α
        dsimp only at h3
        rw [h3, thA_s _ _ hlt, fn_0 ad2.ok.wf, fn_ext ad.ok.wf ad2.ext ad.lt, hfn, hfn2]
        cases thA order ((vs.take i).map (·.l)) α <;> rfl
  ·
    repeat' first
      | (refine J.isJ ?_; first | (fail) | (first | (refine J.o 0 ?_; refine J.ev' hΓ ?_) | refine J.nil ?_ | (refine J.o 4 ?_; first | refine J.lT default hΓ ?_ | refine J.lR hΓ ?_) | (refine J.o 3 ?_; first | refine J.iJ hΓ ?_ | refine J.ev' hΓ ?_) | (refine J.o 1 ?_; first | refine J.ad ?_) | (refine J.o 8 ?_; refine J.bd hΓ ?_) | (refine J.o 10 ?_; refine J.ev' hΓ ?_) | (refine J.o 11 ?_; refine J.ev' hΓ ?_)))
      | (first | refine JC.seq ?_ | refine JC.region ?_ | refine JC.block ?_ | refine JC.ret ?_ | refine JC.exit ?_ | refine JC.skip ?_ | refine thenK.nn ?_ | refine thenK.x ?_ | refine blockK.nn ?_ | refine blockK.hit rfl ?_ | (refine JC.cond rfl (fun hc => ?_) (fun hc => ?_) <;> ((try simp only [decide_eq_true_eq, decide_eq_false_iff_not, beq_iff_eq, beq_eq_false_iff_ne, bne_iff_ne, bne_eq_false_iff_eq, Bool.not_eq_true', Bool.not_eq_false', Bool.not_eq_true, Bool.not_eq_false] at hc) <;> first | (first | (exact absurd rfl hc) | (exfalso; omega) | (exact absurd (hc.symm.trans (by assumption : _ = false)) (by decide)) | (exact absurd (hc.symm.trans (by assumption : _ = true)) (by decide))) | skip)) | refine drawK.nn ?_ | refine loopK.x ?_)
      | (fail)
      | fail
    all_goals first | (exfalso; omega) | skip
    rw [List.take_of_length_le hge] at hfn ad
    refine ret1f rfl rfl rfl (fun w1 hw => ⟨_, _, rfl, hw, s1, y, rfl, rfl, ad, hfn⟩)
theorem cnt_all : ∀ k, k ≤ 128 → cntS (allS k) = k
  | 0, _ => by unfold cntS allS; rw [pc_zero]
  | k + 1, h => by
    have hh : hasB (allS k) ((k : Int) + 1) = false := by
      cases hh : hasB (allS k) ((k : Int) + 1) with
      | false => rfl
      | true => exact absurd ((has_all k _ (by omega)).1 hh) (by omega)
    rw [allS, cnt_with, cnt_all k (by omega), if_pos ⟨by omega, by omega, hh⟩]
theorem ord_of {l : List Int} {N : Nat} (hN : N ≤ 128) (h1 : l.length = N) (h2 : ofS l = allS N) : okOrd l := by
  rw [← ord_iff, h2, cnt_all N hN, h1]
theorem ord_rk {l : List Int} {N : Nat} (hN : N ≤ 128) (h2 : ofS l = allS N) {u : Int} (hu : 1 ≤ u ∧ u ≤ N) : ∃ k, rk l u 0 = some k := by
  cases h : rk l u 0 with
  | some k => exact ⟨k, rfl⟩
  | none =>
    rw [rk_none] at h
    have h3 := (has_all N u hN).2 hu
    rw [← h2] at h3
    unfold ofS at h3
    rcases (ofS_has l (0, 0) u).1 h3 with h4 | h4
    · rw [has_zero] at h4; cases h4
    · exact absurd h4.1 h
theorem varI_ok {x : Int} {N : Nat} (hN : N ≤ 128) (h : x ≠ 0 ∧ -(N : Int) ≤ x ∧ x ≤ N) : 1 ≤ varI x ∧ varI x ≤ N := by
  unfold varI; split <;> (try split) <;> omega
theorem compile_any (N : Nat) (l : List Int) (a : Option Addr) (c : Nat) (h : Heap) (hs : SlT encI 1 a l h) (aT : Option Addr) (cap : Nat) (vs : List HV) (hT : Heap) (ll : LLR aT vs hT) (hth : thE N (vs.map (·.l)) = 0) (hlen : l.length = N) (hof : ofS l = allS N) (h8 : N ≤ 8) (hcost : 2 + costT (vs.map (·.l)) ≤ 1048576) {w0 w : World} {R : Heap} {L : List Heap} (hr : RdH R L h) (rT : RdH R L hT) (hw : H w0 R L w) :
    Calls Tryz.prog 8 #[.agg ⟨[.int .i64 (N : Int), .slice aT vs.length cap]⟩, .slice a l.length c] w fun e w' => ∃ v L', e = .returned v ∧ H w0 R L' w' ∧ ∃ b K s y hO hP, v = .tuple #[.pointer (some ⟨b, 0, none⟩), .int .i64 ((y : Nat) : Int), .int .i64 0] ∧ L' = sF K b s ++ (hO :: hP :: L) ∧ SOk N K s ∧ POk K l hO hP ∧ y < s.ns.length ∧ (∀ α, fn N s.ns y α = thA l (vs.map (·.l)) α) ∧ s.ns.length ≤ 2 + costT (vs.map (·.l)) := by
  have cT := fun w hw => tcheck_any (N : Int) aT cap vs hT ll w hw
  rw [hth] at cT
  have ho := ord_of (by omega) hlen hof
  have hv := (thE_ok.1 hth).2.2
  subst hlen
  have hlit : ∀ v ∈ vs, ∀ x ∈ v.l, ∃ k, rk l (varI x) 0 = some k := fun v hvm x hx => ord_rk (by omega) hof (varI_ok (by omega) ((hv v.l (List.mem_map_of_mem hvm)).2 x hx))
  have cO := fun w hw => of_any a c l h hs (by omega) w hw
  have cA := fun w => all_any l.length (by omega) w
  have hofd : decide (ofS l = allS l.length) = true := decide_eq_true hof
  refine calls_in Tryz.func8 Tryz.ntmps8 rfl rfl (hw) ?_
  repeat' first
    | (refine J.isJ ?_; first | (first | (refine J.o 6 ?_; refine J.bx (fun c2 => ?_)) | (refine J.o 4 ?_; first | refine J.lR hΓ ?_ (hr := Rd.hd)) | (refine J.fc 26 ?_; refine J.call0 eTCheck rfl rfl (fun w hw => cT w (hw.rdH rT.tl)) ?_) | (refine J.fc 20 ?_; refine J.call0 eOf rfl rfl (fun w hw => cO w (hw.rdH hr.tl)) ?_) | (refine J.fc 14 ?_; refine J.call0 eAllV rfl rfl (fun w hw => cA w) ?_) | (refine J.o 11 ?_; refine J.nA (a := ofS l) (b := allS l.length) hΓ ?_; rw [hofd]) | (refine J.fc 27 ?_; refine J.callx eNew rfl rfl (fun w hw => new_any l a c h hs ho hr.tl hw) ?_; rintro _ _ ⟨b0, K, s, hO, hP, rfl, rfl, so, hns, po⟩; have hn2 : s.ns.length = 2 := (by rw [hns]; rfl); unfold sF; simp only [List.cons_append, List.nil_append]) | (refine J.o 7 ?_; refine J.al hΓ (fun c8 => ?_)) | (refine J.o 14 ?_; refine J.mfV [.pointer (some ⟨c2, 0, none⟩), .pointer (some ⟨c8, 0, none⟩)] hΓ ?_) | (refine J.fc 28 ?_; refine J.callx eTry rfl rfl (fun w hw => try_any so (Q := fun s' y => Res l.length K s s' (costT (vs.map (·.l))) y (thA l (vs.map (·.l)))) eComC [] none 0 [] (slNil _) (by show 0 ≤ 1000; omega) (L := [(c8, ptrS b0)] :: hO :: hP :: [(c2, thO (l.length : Int) aT vs.length cap)] :: L) (fun x hx => by cases hx) rfl (fun Lx w hw => comC_any so po h8 (l.length : Int) aT cap vs hT ll hlit (by omega) (RdH.app Lx rT.tl.tl.tl.tl) (RdH.app Lx RdH.hd.tl.tl) (Rd.app Lx Rd.hd.tl.tl.tl) (Rd.app Lx Rd.hd) hw) (H.sel (l := [_, _, _, _, _, _, _, _]) (M := L) hw [1, 2, 3, 4, 0, 5, 6, 7])) ?_; rintro _ _ ⟨s1, y1, rfl, rfl, ad1, f1⟩; unfold ptrS) | (refine J.o 4 ?_; refine J.lR hΓ ?_ (hr := Rd.app _ Rd.hd))) | (first | (refine J.o 0 ?_; refine J.ev' hΓ ?_) | refine J.nil ?_ | (refine J.o 4 ?_; first | refine J.lR hΓ ?_) | (refine J.o 3 ?_; first | refine J.ev' hΓ ?_) | (refine J.o 5 ?_; first | refine J.t0 hΓ ?_) | (refine J.o 6 ?_; refine J.bx (fun _ => ?_)) | (refine J.o 7 ?_; refine J.al hΓ (fun _ => ?_)) | (refine J.o 10 ?_; refine J.ev' hΓ ?_) | (refine J.o 11 ?_; refine J.ev' hΓ ?_)) | ((fail_if_success refine J.wt ?_); refine J.gc rfl rfl (fun hc => ?_) (fun hc => ?_) <;> ((try simp only [decide_eq_true_eq, decide_eq_false_iff_not, beq_iff_eq, beq_eq_false_iff_ne, bne_iff_ne, bne_eq_false_iff_eq, Bool.not_eq_true', Bool.not_eq_false', Bool.not_eq_true, Bool.not_eq_false] at hc) <;> first | (first | (exact absurd rfl hc) | (exfalso; omega) | (exact absurd (hc.symm.trans (by assumption : _ = false)) (by decide)) | (exact absurd (hc.symm.trans (by assumption : _ = true)) (by decide))) | skip)))
    | (first | refine JC.seq ?_ | refine JC.region ?_ | refine JC.ret ?_ | refine JC.skip ?_ | refine thenK.nn ?_ | refine JC.condF rfl ?_ | refine drawK.nn ?_)
    | ((refine JC.drawW [] [] (by kernel_rfl) (by kernel_rfl) ?_))
    | fail
  all_goals first | (exfalso; omega) | skip
  refine ret3f rfl rfl rfl rfl rfl rfl rfl (fun w1 hw => ⟨_, _, rfl, H.sel (l := [_, _, _, _, _, _, _, _]) (M := L) hw [0, 1, 2, 3, 5, 6], b0, K, s1, y1, hO, hP, rfl, rfl, ad1.ok, po, ad1.lt, f1, by have := ad1.le; have h2 : s.ns.length = 2 := (by rw [hns]; rfl); omega⟩)
end Go.Proofs.YtbhgahjeocnfcaaGreat
namespace Go.Proofs.YtbhgahjeocnfcaaGreat
open Go Go.Cx Go.RowKit
set_option linter.unusedVariables false
set_option linter.unusedSimpArgs false
set_option maxHeartbeats 4000000
attribute [local irreducible] J JC thenK blockK loopK roundK drawK retK QW Qt pel List.set Calls
open Go.Maps Go.Lib
set_option maxRecDepth 8000
attribute [local irreducible] JE Br eK0 eK3 brK pc
theorem eValidR : Entr Tryz.prog 54 := Entr.of Tryz.func54 rfl rfl
theorem eCheck05 : Entr Tryz.prog 22 := Entr.of Tryz.func22 rfl rfl
theorem validR_any (l n : Int) (hn : 0 ≤ n ∧ n ≤ 128) (w : World) : Calls Tryz.prog 54 #[.int .i64 l, .int .i64 n] w fun e w' => e = .returned (.bool (validB l n)) ∧ Below w.heap.size w w' := by
  unfold validB
  refine calls_of_JC (R := []) Tryz.func54 Tryz.ntmps54 rfl rfl (Holds.nil _) ?_
  repeat' first
    | (refine J.isJ ?_; first | (fail) | (first | (refine J.o 0 ?_; refine J.ev' hΓ ?_) | refine J.nil ?_ | refine J.kd ?_ | (refine J.o 3 ?_; first | refine J.ev' hΓ ?_) | (refine J.o 1 ?_; first | refine J.ng ?_) | (refine J.o 10 ?_; refine J.ev' hΓ ?_) | (refine J.o 11 ?_; refine J.ev' hΓ ?_)) | ((fail_if_success refine J.wt ?_); refine J.gc rfl rfl (fun hc => ?_) (fun hc => ?_) <;> ((try simp only [decide_eq_true_eq, decide_eq_false_iff_not, beq_iff_eq, beq_eq_false_iff_ne, bne_iff_ne, bne_eq_false_iff_eq, Bool.not_eq_true', Bool.not_eq_false', Bool.not_eq_true, Bool.not_eq_false] at hc) <;> first | (first | (exact absurd rfl hc) | (exfalso; omega) | (exact absurd (hc.symm.trans (by assumption : _ = false)) (by decide)) | (exact absurd (hc.symm.trans (by assumption : _ = true)) (by decide))) | skip)))
    | (first | refine JC.seq ?_ | refine JC.region ?_ | refine JC.ret ?_ | refine thenK.nn ?_)
    | (fail)
    | fail
  all_goals first | (exfalso; omega) | skip
  all_goals (refine ret1f rfl rfl rfl (fun w1 hw => ⟨?_, hw.below⟩))
  all_goals (refine congrArg (fun b => Ending.returned (.bool b)) ?_)
  all_goals first | (symm; rw [decide_eq_false_iff_not]; omega) | (rw [decide_eq_decide]; omega) | (symm; rw [decide_eq_true_iff]; omega)
theorem check05_any (N : Int) (a : Option Addr) (cap : Nat) (vs : List HV) (h : Heap) (hr : LLR a vs h) (w : World) (hw : Holds h w) :
    Calls Tryz.prog 22 #[.agg ⟨[.int .i64 N, .slice a vs.length cap]⟩] w fun e w' => e = .returned (.int .i64 (thE N (vs.map (·.l)))) ∧ Below w.heap.size w w' := by
  have q0 : ∀ L, RdH h L h := fun L => RdH.old fun _ hh => hh
  obtain ⟨ho, hi⟩ := hr
  have hlen : (vs.map (·.l)).length = vs.length := List.length_map _
  by_cases hN : N < 0 ∨ 128 < N
  ·
    have e0 : thE N (vs.map (·.l)) = 6 := by unfold thE; rw [if_pos hN]
    rw [e0]
    refine calls_of_JC (R := h) Tryz.func22 Tryz.ntmps22 rfl rfl (hw) ?_
    repeat' first
      | (refine J.isJ ?_; first | ((refine J.o 6 ?_; refine J.bx (fun b1 => ?_))) | (first | (refine J.o 0 ?_; refine J.ev' hΓ ?_) | refine J.nil ?_ | refine J.kd ?_ | (refine J.o 4 ?_; first | refine J.lT default hΓ ?_ | refine J.lR hΓ ?_) | (refine J.o 3 ?_; first | refine J.iJ hΓ ?_ | refine J.ev' hΓ ?_) | (refine J.o 1 ?_; first | refine J.ad ?_) | (refine J.o 6 ?_; refine J.bx (fun _ => ?_)) | (refine J.o 10 ?_; refine J.ev' hΓ ?_) | (refine J.o 11 ?_; refine J.ev' hΓ ?_)) | ((fail_if_success refine J.wt ?_); refine J.gc rfl rfl (fun hc => ?_) (fun hc => ?_) <;> ((try simp only [decide_eq_true_eq, decide_eq_false_iff_not, beq_iff_eq, beq_eq_false_iff_ne, bne_iff_ne, bne_eq_false_iff_eq, Bool.not_eq_true', Bool.not_eq_false', Bool.not_eq_true, Bool.not_eq_false] at hc) <;> first | (first | (exact absurd rfl hc) | (exfalso; omega) | (exact absurd (hc.symm.trans (by assumption : _ = false)) (by decide)) | (exact absurd (hc.symm.trans (by assumption : _ = true)) (by decide))) | skip)))
      | (first | refine JC.seq ?_ | refine JC.region ?_ | refine JC.block ?_ | refine JC.ret ?_ | refine JC.exit ?_ | refine JC.skip ?_ | refine thenK.nn ?_ | refine thenK.r ?_ | refine thenK.x ?_ | refine blockK.nn ?_ | refine blockK.r ?_ | refine blockK.hit rfl ?_ | refine JC.condT rfl ?_ | refine JC.condF rfl ?_ | (refine JC.cond rfl (fun hc => ?_) (fun hc => ?_) <;> ((try simp only [decide_eq_true_eq, decide_eq_false_iff_not, beq_iff_eq, beq_eq_false_iff_ne, bne_iff_ne, bne_eq_false_iff_eq, Bool.not_eq_true', Bool.not_eq_false', Bool.not_eq_true, Bool.not_eq_false] at hc) <;> first | (first | (exact absurd rfl hc) | (exfalso; omega) | (exact absurd (hc.symm.trans (by assumption : _ = false)) (by decide)) | (exact absurd (hc.symm.trans (by assumption : _ = true)) (by decide))) | skip)) | refine drawK.nn ?_ | refine loopK.r ?_ | refine loopK.x ?_)
      | (fail)
      | fail
    all_goals first | (exfalso; omega) | skip
    all_goals (refine ret1f rfl rfl rfl (fun w1 hw => ⟨rfl, hw.below⟩))
  by_cases hT : 4096 < vs.length
  ·
    have e0 : thE N (vs.map (·.l)) = 2 := by unfold thE; rw [if_neg hN, if_pos (by omega)]
    rw [e0]
    refine calls_of_JC (R := h) Tryz.func22 Tryz.ntmps22 rfl rfl (hw) ?_
    repeat' first
      | (refine J.isJ ?_; first | ((refine J.o 6 ?_; refine J.bx (fun b1 => ?_))) | (first | (refine J.o 0 ?_; refine J.ev' hΓ ?_) | refine J.nil ?_ | refine J.kd ?_ | (refine J.o 4 ?_; first | refine J.lT default hΓ ?_ | refine J.lR hΓ ?_) | (refine J.o 3 ?_; first | refine J.iJ hΓ ?_ | refine J.ev' hΓ ?_) | (refine J.o 1 ?_; first | refine J.ad ?_) | (refine J.o 6 ?_; refine J.bx (fun _ => ?_)) | (refine J.o 10 ?_; refine J.ev' hΓ ?_) | (refine J.o 11 ?_; refine J.ev' hΓ ?_)) | ((fail_if_success refine J.wt ?_); refine J.gc rfl rfl (fun hc => ?_) (fun hc => ?_) <;> ((try simp only [decide_eq_true_eq, decide_eq_false_iff_not, beq_iff_eq, beq_eq_false_iff_ne, bne_iff_ne, bne_eq_false_iff_eq, Bool.not_eq_true', Bool.not_eq_false', Bool.not_eq_true, Bool.not_eq_false] at hc) <;> first | (first | (exact absurd rfl hc) | (exfalso; omega) | (exact absurd (hc.symm.trans (by assumption : _ = false)) (by decide)) | (exact absurd (hc.symm.trans (by assumption : _ = true)) (by decide))) | skip)))
      | (first | refine JC.seq ?_ | refine JC.region ?_ | refine JC.block ?_ | refine JC.ret ?_ | refine JC.exit ?_ | refine JC.skip ?_ | refine thenK.nn ?_ | refine thenK.r ?_ | refine thenK.x ?_ | refine blockK.nn ?_ | refine blockK.r ?_ | refine blockK.hit rfl ?_ | refine JC.condT rfl ?_ | refine JC.condF rfl ?_ | (refine JC.cond rfl (fun hc => ?_) (fun hc => ?_) <;> ((try simp only [decide_eq_true_eq, decide_eq_false_iff_not, beq_iff_eq, beq_eq_false_iff_ne, bne_iff_ne, bne_eq_false_iff_eq, Bool.not_eq_true', Bool.not_eq_false', Bool.not_eq_true, Bool.not_eq_false] at hc) <;> first | (first | (exact absurd rfl hc) | (exfalso; omega) | (exact absurd (hc.symm.trans (by assumption : _ = false)) (by decide)) | (exact absurd (hc.symm.trans (by assumption : _ = true)) (by decide))) | skip)) | refine drawK.nn ?_ | refine loopK.r ?_ | refine loopK.x ?_)
      | (fail)
      | fail
    all_goals first | (exfalso; omega) | skip
    all_goals (refine ret1f rfl rfl rfl (fun w1 hw => ⟨rfl, hw.below⟩))
  have e0 : thE N (vs.map (·.l)) = clsE N ((vs.drop 0).map (·.l)) := by unfold thE; rw [if_neg hN, if_neg (by omega)]; rfl
  obtain ⟨R0, hR0⟩ : ∃ R0, clsE N ((vs.drop 0).map (·.l)) = R0 := ⟨_, rfl⟩
  rw [e0, hR0]
  refine calls_of_JC (R := h) Tryz.func22 Tryz.ntmps22 rfl rfl (hw) ?_
  repeat' first
    | (refine J.isJ ?_; first | ((refine J.o 6 ?_; refine J.bx (fun b1 => ?_))) | (first | (refine J.o 0 ?_; refine J.ev' hΓ ?_) | refine J.nil ?_ | refine J.kd ?_ | (refine J.o 4 ?_; first | refine J.lT default hΓ ?_ | refine J.lR hΓ ?_) | (refine J.o 3 ?_; first | refine J.iJ hΓ ?_ | refine J.ev' hΓ ?_) | (refine J.o 1 ?_; first | refine J.ad ?_) | (refine J.o 6 ?_; refine J.bx (fun _ => ?_)) | (refine J.o 10 ?_; refine J.ev' hΓ ?_) | (refine J.o 11 ?_; refine J.ev' hΓ ?_)) | ((fail_if_success refine J.wt ?_); refine J.gc rfl rfl (fun hc => ?_) (fun hc => ?_) <;> ((try simp only [decide_eq_true_eq, decide_eq_false_iff_not, beq_iff_eq, beq_eq_false_iff_ne, bne_iff_ne, bne_eq_false_iff_eq, Bool.not_eq_true', Bool.not_eq_false', Bool.not_eq_true, Bool.not_eq_false] at hc) <;> first | (first | (exact absurd rfl hc) | (exfalso; omega) | (exact absurd (hc.symm.trans (by assumption : _ = false)) (by decide)) | (exact absurd (hc.symm.trans (by assumption : _ = true)) (by decide))) | skip)))
    | (first | refine JC.seq ?_ | refine JC.region ?_ | refine JC.block ?_ | refine JC.ret ?_ | refine JC.exit ?_ | refine JC.skip ?_ | refine thenK.nn ?_ | refine thenK.r ?_ | refine thenK.x ?_ | refine blockK.nn ?_ | refine blockK.r ?_ | refine blockK.hit rfl ?_ | refine JC.condT rfl ?_ | refine JC.condF rfl ?_ | (refine JC.cond rfl (fun hc => ?_) (fun hc => ?_) <;> ((try simp only [decide_eq_true_eq, decide_eq_false_iff_not, beq_iff_eq, beq_eq_false_iff_ne, bne_iff_ne, bne_eq_false_iff_eq, Bool.not_eq_true', Bool.not_eq_false', Bool.not_eq_true, Bool.not_eq_false] at hc) <;> first | (first | (exact absurd rfl hc) | (exfalso; omega) | (exact absurd (hc.symm.trans (by assumption : _ = false)) (by decide)) | (exact absurd (hc.symm.trans (by assumption : _ = true)) (by decide))) | skip)) | refine drawK.nn ?_ | refine loopK.r ?_ | refine loopK.x ?_)
    | (fail)
    | fail
  all_goals first | (exfalso; omega) | skip
  refine JC.loop (fun i => i == 2 || i == 3 || i == 4 || Nat.ble 17 i) (fun m g L => ∃ (k : Nat), g 3 = .int .i64 (k : Int) ∧ k + m = vs.length ∧ clsE N ((vs.drop k).map (·.l)) = R0 ∧ L = _) vs.length ⟨0, rfl, by omega, hR0, rfl⟩ ?_
  rintro m g L ⟨k, e3, hkm, hRk, rfl⟩
  refine JC.pin 3 e3 ?_
  rcases Nat.lt_or_ge k vs.length with hk | hk
  ·
    rw [drop_g vs k hk, List.map_cons] at hRk
    have hik := hi _ (mem_g vs k hk)
    by_cases hlc : 128 < (vs.getD k default).l.length
    ·
      unfold clsE at hRk
      rw [if_pos hlc] at hRk
      repeat' first
        | (refine J.isJ ?_; first | (first | (refine J.o 3 ?_; refine J.iJ hΓ ?_ (hs := ho)) | (refine J.o 4 ?_; first | refine J.lT default hΓ ?_ (hs := ho) (hr := q0 _))) | (first | (refine J.o 0 ?_; refine J.ev' hΓ ?_) | refine J.nil ?_ | refine J.kd ?_ | (refine J.o 4 ?_; first | refine J.lT default hΓ ?_ | refine J.lR hΓ ?_) | (refine J.o 3 ?_; first | refine J.iJ hΓ ?_ | refine J.ev' hΓ ?_) | (refine J.o 1 ?_; first | refine J.ad ?_) | (refine J.o 6 ?_; refine J.bx (fun _ => ?_)) | (refine J.o 10 ?_; refine J.ev' hΓ ?_) | (refine J.o 11 ?_; refine J.ev' hΓ ?_)) | ((fail_if_success refine J.wt ?_); refine J.gc rfl rfl (fun hc => ?_) (fun hc => ?_) <;> ((try simp only [decide_eq_true_eq, decide_eq_false_iff_not, beq_iff_eq, beq_eq_false_iff_ne, bne_iff_ne, bne_eq_false_iff_eq, Bool.not_eq_true', Bool.not_eq_false', Bool.not_eq_true, Bool.not_eq_false] at hc) <;> first | (first | (exact absurd rfl hc) | (exfalso; omega) | (exact absurd (hc.symm.trans (by assumption : _ = false)) (by decide)) | (exact absurd (hc.symm.trans (by assumption : _ = true)) (by decide))) | skip)))
        | (first | refine JC.seq ?_ | refine JC.region ?_ | refine JC.block ?_ | refine JC.ret ?_ | refine JC.exit ?_ | refine JC.skip ?_ | refine thenK.nn ?_ | refine thenK.r ?_ | refine thenK.x ?_ | refine blockK.nn ?_ | refine blockK.r ?_ | refine blockK.hit rfl ?_ | refine JC.condT rfl ?_ | refine JC.condF rfl ?_ | (refine JC.cond rfl (fun hc => ?_) (fun hc => ?_) <;> ((try simp only [decide_eq_true_eq, decide_eq_false_iff_not, beq_iff_eq, beq_eq_false_iff_ne, bne_iff_ne, bne_eq_false_iff_eq, Bool.not_eq_true', Bool.not_eq_false', Bool.not_eq_true, Bool.not_eq_false] at hc) <;> first | (first | (exact absurd rfl hc) | (exfalso; omega) | (exact absurd (hc.symm.trans (by assumption : _ = false)) (by decide)) | (exact absurd (hc.symm.trans (by assumption : _ = true)) (by decide))) | skip)) | refine drawK.nn ?_ | refine loopK.r ?_ | refine loopK.x ?_)
        | (fail)
        | fail
      all_goals first | (exfalso; omega) | skip
      all_goals (refine ret1f rfl rfl rfl (fun w1 hw => ⟨?_, hw.below⟩))
      rw [hRk]
    unfold clsE at hRk
    rw [if_neg hlc] at hRk
    repeat' first
      | (refine J.isJ ?_; first | (first | (refine J.o 3 ?_; refine J.iJ hΓ ?_ (hs := ho)) | (refine J.o 4 ?_; first | refine J.lT default hΓ ?_ (hs := ho) (hr := q0 _))) | (first | (refine J.o 0 ?_; refine J.ev' hΓ ?_) | refine J.nil ?_ | refine J.kd ?_ | (refine J.o 4 ?_; first | refine J.lT default hΓ ?_ | refine J.lR hΓ ?_) | (refine J.o 3 ?_; first | refine J.iJ hΓ ?_ | refine J.ev' hΓ ?_) | (refine J.o 1 ?_; first | refine J.ad ?_) | (refine J.o 6 ?_; refine J.bx (fun _ => ?_)) | (refine J.o 10 ?_; refine J.ev' hΓ ?_) | (refine J.o 11 ?_; refine J.ev' hΓ ?_)) | ((fail_if_success refine J.wt ?_); refine J.gc rfl rfl (fun hc => ?_) (fun hc => ?_) <;> ((try simp only [decide_eq_true_eq, decide_eq_false_iff_not, beq_iff_eq, beq_eq_false_iff_ne, bne_iff_ne, bne_eq_false_iff_eq, Bool.not_eq_true', Bool.not_eq_false', Bool.not_eq_true, Bool.not_eq_false] at hc) <;> first | (first | (exact absurd rfl hc) | (exfalso; omega) | (exact absurd (hc.symm.trans (by assumption : _ = false)) (by decide)) | (exact absurd (hc.symm.trans (by assumption : _ = true)) (by decide))) | skip)))
      | (first | refine JC.seq ?_ | refine JC.region ?_ | refine JC.block ?_ | refine JC.ret ?_ | refine JC.exit ?_ | refine JC.skip ?_ | refine thenK.nn ?_ | refine thenK.r ?_ | refine thenK.x ?_ | refine blockK.nn ?_ | refine blockK.r ?_ | refine blockK.hit rfl ?_ | refine JC.condT rfl ?_ | refine JC.condF rfl ?_ | (refine JC.cond rfl (fun hc => ?_) (fun hc => ?_) <;> ((try simp only [decide_eq_true_eq, decide_eq_false_iff_not, beq_iff_eq, beq_eq_false_iff_ne, bne_iff_ne, bne_eq_false_iff_eq, Bool.not_eq_true', Bool.not_eq_false', Bool.not_eq_true, Bool.not_eq_false] at hc) <;> first | (first | (exact absurd rfl hc) | (exfalso; omega) | (exact absurd (hc.symm.trans (by assumption : _ = false)) (by decide)) | (exact absurd (hc.symm.trans (by assumption : _ = true)) (by decide))) | skip)) | refine drawK.nn ?_ | refine loopK.r ?_ | refine loopK.x ?_)
      | (fail)
      | fail
    all_goals first | (exfalso; omega) | skip
    refine JC.loop (fun i => i == 2 || i == 4 || Nat.ble 31 i) (fun m g L => ∃ (j : Nat), g 4 = .int .i64 (j : Int) ∧ j + m = (vs.getD k default).l.length ∧ litsE N ((vs.getD k default).l.drop j) = litsE N (vs.getD k default).l ∧ L = _) (vs.getD k default).l.length ⟨0, rfl, by omega, rfl, rfl⟩ ?_
    rintro m3 g3 L3 ⟨j, e4, hjm, hLj, rfl⟩
    refine JC.pin 4 e4 ?_
    rcases Nat.lt_or_ge j (vs.getD k default).l.length with hj | hj
    ·
      rw [drop_g _ j hj, litsE_cons] at hLj
      have cV := fun w => validR_any ((vs.getD k default).l.getD j default) N (by omega) w
      cases hv : validB ((vs.getD k default).l.getD j default) N with
      | true =>
        rw [hv] at cV
        rw [hv, if_pos rfl] at hLj
        repeat' first
          | (refine J.isJ ?_; first | (first | (refine J.o 3 ?_; first | refine J.iJ hΓ ?_ (hs := ho) | refine J.iJ hΓ ?_ (hs := hik)) | (refine J.o 4 ?_; first | refine J.lT default hΓ ?_ (hs := hik) (hr := q0 _) | refine J.lT default hΓ ?_ (hs := ho) (hr := q0 _)) | (refine J.fc 54 ?_; refine J.call0 eValidR rfl rfl (fun w hw => cV w) ?_)) | (first | (refine J.o 0 ?_; refine J.ev' hΓ ?_) | refine J.nil ?_ | refine J.kd ?_ | (refine J.o 4 ?_; first | refine J.lT default hΓ ?_ | refine J.lR hΓ ?_) | (refine J.o 3 ?_; first | refine J.iJ hΓ ?_ | refine J.ev' hΓ ?_) | (refine J.o 1 ?_; first | refine J.ad ?_) | (refine J.o 6 ?_; refine J.bx (fun _ => ?_)) | (refine J.o 10 ?_; refine J.ev' hΓ ?_) | (refine J.o 11 ?_; refine J.ev' hΓ ?_)) | ((fail_if_success refine J.wt ?_); refine J.gc rfl rfl (fun hc => ?_) (fun hc => ?_) <;> ((try simp only [decide_eq_true_eq, decide_eq_false_iff_not, beq_iff_eq, beq_eq_false_iff_ne, bne_iff_ne, bne_eq_false_iff_eq, Bool.not_eq_true', Bool.not_eq_false', Bool.not_eq_true, Bool.not_eq_false] at hc) <;> first | (first | (exact absurd rfl hc) | (exfalso; omega) | (exact absurd (hc.symm.trans (by assumption : _ = false)) (by decide)) | (exact absurd (hc.symm.trans (by assumption : _ = true)) (by decide))) | skip)))
          | (first | refine JC.seq ?_ | refine JC.region ?_ | refine JC.block ?_ | refine JC.ret ?_ | refine JC.exit ?_ | refine JC.skip ?_ | refine thenK.nn ?_ | refine thenK.r ?_ | refine thenK.x ?_ | refine blockK.nn ?_ | refine blockK.r ?_ | refine blockK.hit rfl ?_ | refine JC.condT rfl ?_ | refine JC.condF rfl ?_ | (refine JC.cond rfl (fun hc => ?_) (fun hc => ?_) <;> ((try simp only [decide_eq_true_eq, decide_eq_false_iff_not, beq_iff_eq, beq_eq_false_iff_ne, bne_iff_ne, bne_eq_false_iff_eq, Bool.not_eq_true', Bool.not_eq_false', Bool.not_eq_true, Bool.not_eq_false] at hc) <;> first | (first | (exact absurd rfl hc) | (exfalso; omega) | (exact absurd (hc.symm.trans (by assumption : _ = false)) (by decide)) | (exact absurd (hc.symm.trans (by assumption : _ = true)) (by decide))) | skip)) | refine drawK.nn ?_ | refine loopK.r ?_ | refine loopK.x ?_)
          | ((refine JC.drawW [] [] (by kernel_rfl) (by kernel_rfl) ?_))
          | fail
        all_goals first | (exfalso; omega) | skip
        all_goals refine loopK.nn (m3 - 1) (by omega) (by repeat (first | refine Ag.upd rfl ?_ | exact Ag.hv | refine Ag.hv2 (fun i hi => by simp at hi ⊢; omega) ?_)) ⟨j + 1, ?_, by omega, hLj, rfl⟩
        all_goals (show Value.int .i64 _ = _; congr 1)
      | false =>
        rw [hv] at cV
        rw [hv, if_neg (by decide)] at hLj
        rw [if_neg (by rw [← hLj]; decide)] at hRk
        repeat' first
          | (refine J.isJ ?_; first | (first | (refine J.o 3 ?_; first | refine J.iJ hΓ ?_ (hs := ho) | refine J.iJ hΓ ?_ (hs := hik)) | (refine J.o 4 ?_; first | refine J.lT default hΓ ?_ (hs := hik) (hr := q0 _) | refine J.lT default hΓ ?_ (hs := ho) (hr := q0 _)) | (refine J.fc 54 ?_; refine J.call0 eValidR rfl rfl (fun w hw => cV w) ?_)) | (first | (refine J.o 0 ?_; refine J.ev' hΓ ?_) | refine J.nil ?_ | refine J.kd ?_ | (refine J.o 4 ?_; first | refine J.lT default hΓ ?_ | refine J.lR hΓ ?_) | (refine J.o 3 ?_; first | refine J.iJ hΓ ?_ | refine J.ev' hΓ ?_) | (refine J.o 1 ?_; first | refine J.ad ?_) | (refine J.o 6 ?_; refine J.bx (fun _ => ?_)) | (refine J.o 10 ?_; refine J.ev' hΓ ?_) | (refine J.o 11 ?_; refine J.ev' hΓ ?_)) | ((fail_if_success refine J.wt ?_); refine J.gc rfl rfl (fun hc => ?_) (fun hc => ?_) <;> ((try simp only [decide_eq_true_eq, decide_eq_false_iff_not, beq_iff_eq, beq_eq_false_iff_ne, bne_iff_ne, bne_eq_false_iff_eq, Bool.not_eq_true', Bool.not_eq_false', Bool.not_eq_true, Bool.not_eq_false] at hc) <;> first | (first | (exact absurd rfl hc) | (exfalso; omega) | (exact absurd (hc.symm.trans (by assumption : _ = false)) (by decide)) | (exact absurd (hc.symm.trans (by assumption : _ = true)) (by decide))) | skip)))
          | (first | refine JC.seq ?_ | refine JC.region ?_ | refine JC.block ?_ | refine JC.ret ?_ | refine JC.exit ?_ | refine JC.skip ?_ | refine thenK.nn ?_ | refine thenK.r ?_ | refine thenK.x ?_ | refine blockK.nn ?_ | refine blockK.r ?_ | refine blockK.hit rfl ?_ | refine JC.condT rfl ?_ | refine JC.condF rfl ?_ | (refine JC.cond rfl (fun hc => ?_) (fun hc => ?_) <;> ((try simp only [decide_eq_true_eq, decide_eq_false_iff_not, beq_iff_eq, beq_eq_false_iff_ne, bne_iff_ne, bne_eq_false_iff_eq, Bool.not_eq_true', Bool.not_eq_false', Bool.not_eq_true, Bool.not_eq_false] at hc) <;> first | (first | (exact absurd rfl hc) | (exfalso; omega) | (exact absurd (hc.symm.trans (by assumption : _ = false)) (by decide)) | (exact absurd (hc.symm.trans (by assumption : _ = true)) (by decide))) | skip)) | refine drawK.nn ?_ | refine loopK.r ?_ | refine loopK.x ?_)
          | ((refine JC.drawW [] [] (by kernel_rfl) (by kernel_rfl) ?_))
          | fail
        all_goals first | (exfalso; omega) | skip
        all_goals (refine ret1f rfl rfl rfl (fun w1 hw => ⟨?_, hw.below⟩))
        rw [hRk]
    ·
      rw [List.drop_of_length_le hj] at hLj
      have hz : litsE N (vs.getD k default).l = 0 := hLj.symm
      rw [if_pos hz] at hRk
      repeat' first
        | (refine J.isJ ?_; first | (first | (refine J.o 3 ?_; first | refine J.iJ hΓ ?_ (hs := ho)) | (refine J.o 4 ?_; first | refine J.lT default hΓ ?_ (hs := ho) (hr := q0 _))) | (first | (refine J.o 0 ?_; refine J.ev' hΓ ?_) | refine J.nil ?_ | refine J.kd ?_ | (refine J.o 4 ?_; first | refine J.lT default hΓ ?_ | refine J.lR hΓ ?_) | (refine J.o 3 ?_; first | refine J.iJ hΓ ?_ | refine J.ev' hΓ ?_) | (refine J.o 1 ?_; first | refine J.ad ?_) | (refine J.o 6 ?_; refine J.bx (fun _ => ?_)) | (refine J.o 10 ?_; refine J.ev' hΓ ?_) | (refine J.o 11 ?_; refine J.ev' hΓ ?_)) | ((fail_if_success refine J.wt ?_); refine J.gc rfl rfl (fun hc => ?_) (fun hc => ?_) <;> ((try simp only [decide_eq_true_eq, decide_eq_false_iff_not, beq_iff_eq, beq_eq_false_iff_ne, bne_iff_ne, bne_eq_false_iff_eq, Bool.not_eq_true', Bool.not_eq_false', Bool.not_eq_true, Bool.not_eq_false] at hc) <;> first | (first | (exact absurd rfl hc) | (exfalso; omega) | (exact absurd (hc.symm.trans (by assumption : _ = false)) (by decide)) | (exact absurd (hc.symm.trans (by assumption : _ = true)) (by decide))) | skip)))
        | (first | refine JC.seq ?_ | refine JC.region ?_ | refine JC.block ?_ | refine JC.ret ?_ | refine JC.exit ?_ | refine JC.skip ?_ | refine thenK.nn ?_ | refine thenK.r ?_ | refine thenK.x ?_ | refine blockK.nn ?_ | refine blockK.r ?_ | refine blockK.hit rfl ?_ | refine JC.condT rfl ?_ | refine JC.condF rfl ?_ | (refine JC.cond rfl (fun hc => ?_) (fun hc => ?_) <;> ((try simp only [decide_eq_true_eq, decide_eq_false_iff_not, beq_iff_eq, beq_eq_false_iff_ne, bne_iff_ne, bne_eq_false_iff_eq, Bool.not_eq_true', Bool.not_eq_false', Bool.not_eq_true, Bool.not_eq_false] at hc) <;> first | (first | (exact absurd rfl hc) | (exfalso; omega) | (exact absurd (hc.symm.trans (by assumption : _ = false)) (by decide)) | (exact absurd (hc.symm.trans (by assumption : _ = true)) (by decide))) | skip)) | refine drawK.nn ?_ | refine loopK.r ?_ | refine loopK.x ?_)
        | ((refine JC.drawW [] [] (by kernel_rfl) (by kernel_rfl) ?_))
        | fail
      all_goals first | (exfalso; omega) | skip
      all_goals refine loopK.nn (m - 1) (by omega) (by repeat (first | refine Ag.upd rfl ?_ | exact Ag.hv | refine Ag.hv2 (fun i hi => by simp at hi ⊢; omega) ?_)) ⟨k + 1, ?_, by omega, hRk, rfl⟩
      all_goals (show Value.int .i64 _ = _; congr 1)
  ·
    rw [List.drop_of_length_le hk] at hRk
    repeat' first
      | (refine J.isJ ?_; first | (fail) | (first | (refine J.o 0 ?_; refine J.ev' hΓ ?_) | refine J.nil ?_ | refine J.kd ?_ | (refine J.o 4 ?_; first | refine J.lT default hΓ ?_ | refine J.lR hΓ ?_) | (refine J.o 3 ?_; first | refine J.iJ hΓ ?_ | refine J.ev' hΓ ?_) | (refine J.o 1 ?_; first | refine J.ad ?_) | (refine J.o 6 ?_; refine J.bx (fun _ => ?_)) | (refine J.o 10 ?_; refine J.ev' hΓ ?_) | (refine J.o 11 ?_; refine J.ev' hΓ ?_)) | ((fail_if_success refine J.wt ?_); refine J.gc rfl rfl (fun hc => ?_) (fun hc => ?_) <;> ((try simp only [decide_eq_true_eq, decide_eq_false_iff_not, beq_iff_eq, beq_eq_false_iff_ne, bne_iff_ne, bne_eq_false_iff_eq, Bool.not_eq_true', Bool.not_eq_false', Bool.not_eq_true, Bool.not_eq_false] at hc) <;> first | (first | (exact absurd rfl hc) | (exfalso; omega) | (exact absurd (hc.symm.trans (by assumption : _ = false)) (by decide)) | (exact absurd (hc.symm.trans (by assumption : _ = true)) (by decide))) | skip)))
      | (first | refine JC.seq ?_ | refine JC.region ?_ | refine JC.block ?_ | refine JC.ret ?_ | refine JC.exit ?_ | refine JC.skip ?_ | refine thenK.nn ?_ | refine thenK.r ?_ | refine thenK.x ?_ | refine blockK.nn ?_ | refine blockK.r ?_ | refine blockK.hit rfl ?_ | refine JC.condT rfl ?_ | refine JC.condF rfl ?_ | (refine JC.cond rfl (fun hc => ?_) (fun hc => ?_) <;> ((try simp only [decide_eq_true_eq, decide_eq_false_iff_not, beq_iff_eq, beq_eq_false_iff_ne, bne_iff_ne, bne_eq_false_iff_eq, Bool.not_eq_true', Bool.not_eq_false', Bool.not_eq_true, Bool.not_eq_false] at hc) <;> first | (first | (exact absurd rfl hc) | (exfalso; omega) | (exact absurd (hc.symm.trans (by assumption : _ = false)) (by decide)) | (exact absurd (hc.symm.trans (by assumption : _ = true)) (by decide))) | skip)) | refine drawK.nn ?_ | refine loopK.r ?_ | refine loopK.x ?_)
      | (fail)
      | fail
    all_goals first | (exfalso; omega) | skip
    all_goals (refine ret1f rfl rfl rfl (fun w1 hw => ⟨?_, hw.below⟩))
    rw [← hRk]; rfl
end Go.Proofs.YtbhgahjeocnfcaaGreat
namespace Go.Proofs.YtbhgahjeocnfcaaGreat
open Go Go.Cx Go.RowKit
set_option linter.unusedVariables false
set_option linter.unusedSimpArgs false
set_option maxHeartbeats 4000000
attribute [local irreducible] J JC thenK blockK loopK roundK drawK retK QW Qt pel List.set Calls
set_option maxRecDepth 8000
attribute [local irreducible] JE Br eK0 eK3 brK pc
def encS (s : Nat × Nat) : List Value := [.int .u64 (s.1 : Int), .int .u64 (s.2 : Int)]
theorem with_ofP (s : Nat × Nat) (hok : okS s) (v : Int) (hv : 1 ≤ v ∧ v ≤ 128) : ofP (upTo s 128 ++ [v]) = withS s v := by
  refine set_ext (ofP_ok _) (ok_with hok v) (fun u h1 h2 => ?_)
  have a := ofP_has (upTo s 128 ++ [v]) u
  have b := has_with s v u hv
  rw [List.mem_append, upTo_mem, List.mem_singleton] at a
  cases h3 : hasB (ofP (upTo s 128 ++ [v])) u <;> cases h4 : hasB (withS s v) u <;> first | rfl | (exfalso; simp_all)
theorem eWith3 : Entr Tryz.prog 113 := Entr.of Tryz.func113 rfl rfl
theorem with3_any (s : Nat × Nat) (hok : okS s) (v : Int) (hv : 1 ≤ v ∧ v ≤ 128) (w : World) :
    Calls Tryz.prog 113 #[sv s, .int .i64 v] w fun e w' => e = .returned (sv (withS s v)) ∧ Below w.heap.size w w' := by
  have hlen := upTo_len s 128
  have hwo := with_ofP s hok v hv
  have cO : ∀ (a : Option Addr) (cap : Nat) (h : Heap), SlT encI 1 a (upTo s 128 ++ [v]) h → ∀ w, Holds h w → Calls Tryz.prog 127 #[.slice a ((upTo s 128).length + 1) cap] w fun e w' => e = .returned (sv (withS s v)) ∧ Below w.heap.size w w' := fun a cap h hs w hw => by
    have e : (upTo s 128).length + 1 = (upTo s 128 ++ [v]).length := by simp
    rw [← hwo, e]; exact of3_any a cap _ h hs (by rw [List.length_append]; simp only [List.length_cons, List.length_nil]; omega) w hw
  refine calls_of_JC (R := []) Tryz.func113 Tryz.ntmps113 rfl rfl (Holds.nil _) ?_
  repeat' first
    | (refine J.isJ ?_; first | (first | (refine J.o 0 ?_; refine J.ev' hΓ ?_) | refine J.nil ?_ | (refine J.o 4 ?_; first | refine J.e1 hΓ ?_) | (refine J.o 3 ?_; first | refine J.ev' hΓ ?_) | (refine J.o 5 ?_; first | refine J.t1 hΓ ?_) | (refine J.o 6 ?_; refine J.bx (fun _ => ?_)) | (refine J.o 7 ?_; refine J.al hΓ (fun _ => ?_)) | (refine J.o 9 ?_; refine J.bl hΓ (fun _ => ?_)) | (refine J.o 10 ?_; first | refine J.ev' hΓ ?_) | (refine J.o 11 ?_; first | refine J.ev' hΓ ?_)) | (first | (refine J.fc 128 ?_; refine J.call1 eList3 rfl rfl (fun w hw => list3_any s hok w) ?_; rintro _ hl ⟨al, cl, rfl, ol⟩) | (refine J.app1 (enc := encI) [v] hΓ rfl rfl rfl rfl rfl rfl rfl ol rfl rfl rfl rfl (by omega) (by omega) (by omega) (fun a3 cap3 h3 o3 => ?_)) | (refine J.fc 127 ?_; refine J.call0 eOf3 rfl rfl (fun w hw => cO _ _ _ o3.sl w (hw.rdH (by first | exact RdH.hd | exact RdH.hd.tl | exact RdH.hd.tl.tl | exact RdH.hd.tl.tl.tl | exact RdH.hd.tl.tl.tl.tl | exact RdH.hd.tl.tl.tl.tl.tl | exact RdH.hd.tl.tl.tl.tl.tl.tl | exact RdH.hd.tl.tl.tl.tl.tl.tl.tl | exact RdH.old (fun _ hh => hh) | assumption))) ?_)))
    | (first | refine JC.seq ?_ | refine JC.region ?_ | refine JC.ret ?_ | refine thenK.nn ?_)
    | fail
  all_goals first | (exfalso; omega) | exact retC hΓ rfl rfl rfl (by first | exact Rd.hd | exact Rd.hd.tl | exact Rd.hd.tl.tl) rfl (fun w1 hw => ⟨rfl, hw.below⟩)
def ints : Nat → List Int
  | 0 => []
  | k + 1 => ints k ++ [(k : Int) + 1]
theorem ints_mem : ∀ (k : Nat) (u : Int), u ∈ ints k ↔ 1 ≤ u ∧ u ≤ k
  | 0, u => by simp [ints]; omega
  | k + 1, u => by
    rw [ints, List.mem_append, ints_mem k u, List.mem_singleton]
    constructor
    · rintro (h | h) <;> omega
    · intro h; by_cases hu : u = k + 1
      · exact .inr hu
      · exact .inl ⟨h.1, by omega⟩
theorem ints_succ (k : Nat) : ints (k + 1) = ints k ++ [(k : Int) + 1] := rfl
attribute [local irreducible] ints mark
end Go.Proofs.YtbhgahjeocnfcaaGreat
namespace Go.Proofs.YtbhgahjeocnfcaaGreat
open Go Go.Cx Go.RowKit
set_option linter.unusedVariables false
set_option linter.unusedSimpArgs false
set_option maxHeartbeats 4000000
attribute [local irreducible] J JC thenK blockK loopK roundK drawK retK QW Qt pel List.set Calls
open Go.Maps Go.Lib
set_option maxRecDepth 8000
attribute [local irreducible] JE Br eK0 eK3 brK pc
theorem eUpTo : Entr Tryz.prog 24 := Entr.of Tryz.func24 rfl rfl
theorem eSmall : Entr Tryz.prog 5 := Entr.of Tryz.func5 rfl rfl
theorem eOrder31 : Entr Tryz.prog 7 := Entr.of Tryz.func7 rfl rfl
theorem eSame3 : Entr Tryz.prog 25 := Entr.of Tryz.func25 rfl rfl
theorem ints_len : ∀ n, (ints n).length = n
  | 0 => by unfold ints; rfl
  | n + 1 => by rw [ints_succ, List.length_append, ints_len n]; rfl
theorem upTo_any (n : Nat) (hn : n ≤ 1000) (w : World) : Calls Tryz.prog 24 #[.int .i64 (n : Int)] w (Gives (Sls encI 1 3 (ints n)) w) := by
  refine calls_of_JC (R := []) Tryz.func24 Tryz.ntmps24 rfl rfl (Holds.nil _) ?_
  repeat' first
    | (refine J.isJ ?_; first | (fail) | (first | (refine J.o 0 ?_; refine J.ev' hΓ ?_) | refine J.nil ?_ | (refine J.o 3 ?_; first | refine J.ev' hΓ ?_) | (refine J.o 1 ?_; first | refine J.ad ?_) | (refine J.o 9 ?_; refine J.bl hΓ (fun _ => ?_)) | (refine J.o 10 ?_; refine J.ev' hΓ ?_) | (refine J.o 11 ?_; refine J.ev' hΓ ?_)))
    | (first | refine JC.seq ?_ | refine JC.region ?_ | refine JC.block ?_ | refine JC.ret ?_ | refine JC.exit ?_ | refine JC.skip ?_ | refine thenK.nn ?_ | refine thenK.x ?_ | refine blockK.nn ?_ | refine blockK.hit rfl ?_ | (refine JC.cond rfl (fun hc => ?_) (fun hc => ?_) <;> ((try simp only [decide_eq_true_eq, decide_eq_false_iff_not, beq_iff_eq, beq_eq_false_iff_ne, bne_iff_ne, bne_eq_false_iff_eq, Bool.not_eq_true', Bool.not_eq_false', Bool.not_eq_true, Bool.not_eq_false] at hc) <;> first | (first | (exact absurd rfl hc) | (exfalso; omega) | (exact absurd (hc.symm.trans (by assumption : _ = false)) (by decide)) | (exact absurd (hc.symm.trans (by assumption : _ = true)) (by decide))) | skip)) | refine loopK.x ?_)
    | (fail)
    | fail
  all_goals first | (exfalso; omega) | skip
  refine JC.nilF ?_
  refine JC.loop (fun i => i == 3 || i == 4 || Nat.ble 5 i) (fun m g L => ∃ (k : Nat) (a : Option Addr) (c : Nat) (h : Heap), g 4 = .int .i64 ((k + 1 : Nat) : Int) ∧ g 3 = .slice a (ints k).length c ∧ k + m = n ∧ OwT encI 1 3 a c (ints k) h ∧ L = [h]) n ⟨0, none, 0, [], rfl, by unfold ints; rfl, by omega, by unfold ints; exact OwT.nil (fun _ => rfl), rfl⟩ ?_
  rintro m g L ⟨k, a, c, h, e4, e3, hkm, oo, rfl⟩
  refine JC.pin 4 e4 (JC.pin 3 e3 ?_)
  have hil := ints_len k
  rcases Nat.lt_or_ge k n with hk | hk
  ·
    have hs := ints_succ k
    repeat' first
      | (refine J.isJ ?_; first | ((refine J.o 9 ?_; first | (first | (refine J.ap1 (enc := encI) [((k + 1 : Nat) : Int)] hΓ (fun a2 c2 h2 o2 => ?_))))) | (first | (refine J.o 0 ?_; refine J.ev' hΓ ?_) | refine J.nil ?_ | (refine J.o 3 ?_; first | refine J.ev' hΓ ?_) | (refine J.o 1 ?_; first | refine J.ad ?_) | (refine J.o 9 ?_; refine J.bl hΓ (fun _ => ?_)) | (refine J.o 10 ?_; refine J.ev' hΓ ?_) | (refine J.o 11 ?_; refine J.ev' hΓ ?_)))
      | (first | refine JC.seq ?_ | refine JC.region ?_ | refine JC.block ?_ | refine JC.ret ?_ | refine JC.exit ?_ | refine JC.skip ?_ | refine thenK.nn ?_ | refine thenK.x ?_ | refine blockK.nn ?_ | refine blockK.hit rfl ?_ | (refine JC.cond rfl (fun hc => ?_) (fun hc => ?_) <;> ((try simp only [decide_eq_true_eq, decide_eq_false_iff_not, beq_iff_eq, beq_eq_false_iff_ne, bne_iff_ne, bne_eq_false_iff_eq, Bool.not_eq_true', Bool.not_eq_false', Bool.not_eq_true, Bool.not_eq_false] at hc) <;> first | (first | (exact absurd rfl hc) | (exfalso; omega) | (exact absurd (hc.symm.trans (by assumption : _ = false)) (by decide)) | (exact absurd (hc.symm.trans (by assumption : _ = true)) (by decide))) | skip)) | refine loopK.x ?_)
      | (fail)
      | fail
    all_goals first | (exfalso; omega) | skip
    have e : ints k ++ [((k + 1 : Nat) : Int)] = ints (k + 1) := hs.symm
    rw [e] at o2
    refine loopK.nn (m - 1) (by omega) (by repeat (first | refine Ag.upd rfl ?_ | exact Ag.hv)) ⟨k + 1, a2, c2, h2, ?_, ?_, by omega, o2, rfl⟩
    · show Value.int .i64 _ = _; congr 1
    · show Value.slice _ _ _ = _; rw [e]
  ·
    obtain rfl : k = n := by omega
    repeat' first
      | (refine J.isJ ?_; first | (fail) | (first | (refine J.o 0 ?_; refine J.ev' hΓ ?_) | refine J.nil ?_ | (refine J.o 3 ?_; first | refine J.ev' hΓ ?_) | (refine J.o 1 ?_; first | refine J.ad ?_) | (refine J.o 9 ?_; refine J.bl hΓ (fun _ => ?_)) | (refine J.o 10 ?_; refine J.ev' hΓ ?_) | (refine J.o 11 ?_; refine J.ev' hΓ ?_)))
      | (first | refine JC.seq ?_ | refine JC.region ?_ | refine JC.block ?_ | refine JC.ret ?_ | refine JC.exit ?_ | refine JC.skip ?_ | refine thenK.nn ?_ | refine thenK.x ?_ | refine blockK.nn ?_ | refine blockK.hit rfl ?_ | (refine JC.cond rfl (fun hc => ?_) (fun hc => ?_) <;> ((try simp only [decide_eq_true_eq, decide_eq_false_iff_not, beq_iff_eq, beq_eq_false_iff_ne, bne_iff_ne, bne_eq_false_iff_eq, Bool.not_eq_true', Bool.not_eq_false', Bool.not_eq_true, Bool.not_eq_false] at hc) <;> first | (first | (exact absurd rfl hc) | (exfalso; omega) | (exact absurd (hc.symm.trans (by assumption : _ = false)) (by decide)) | (exact absurd (hc.symm.trans (by assumption : _ = true)) (by decide))) | skip)) | refine loopK.x ?_)
      | (fail)
      | fail
    all_goals first | (exfalso; omega) | skip
    exact ret1f rfl rfl rfl (fun w1 hw => Gives.of hw ⟨_, _, rfl, oo⟩)
def smallP (n : Int) (N : Int) (T : List (List Int)) : Prop := 0 ≤ N ∧ N ≤ n ∧ T.length ≤ 30 ∧ (∀ c ∈ T, c.length ≤ 10) ∧ thE N T = 0
instance (n N : Int) (T : List (List Int)) : Decidable (smallP n N T) := by unfold smallP; exact inferInstance
theorem small_any (n : Int) (hn : n ≤ 128) (N : Int) (a : Option Addr) (cap : Nat) (vs : List HV) (h : Heap) (hr : LLR a vs h) (w : World) (hw : Holds h w) :
    Calls Tryz.prog 5 #[.agg ⟨[.int .i64 N, .slice a vs.length cap]⟩, .int .i64 n] w fun e w' => e = .returned (.bool (decide (smallP n N (vs.map (·.l))))) ∧ Below w.heap.size w w' := by
  have q0 : ∀ L, RdH h L h := fun L => RdH.old fun _ hh => hh
  have cC := fun w hw => check05_any N a cap vs h hr w hw
  have hlen : (vs.map (·.l)).length = vs.length := List.length_map _
  obtain ⟨ho, hi⟩ := hr
  have hno : ∀ x : Prop, (smallP n N (vs.map (·.l)) → x) → ¬ x → Value.bool (decide (smallP n N (vs.map (·.l)))) = .bool false := fun x h1 h2 => by rw [decide_eq_false (fun g => h2 (h1 g))]
  by_cases hb : 0 ≤ N ∧ N ≤ n ∧ vs.length ≤ 30
  case neg =>
    rw [hno _ (fun g => ⟨g.1, g.2.1, by have := g.2.2.1; omega⟩) hb]
    refine calls_of_JC (R := h) Tryz.func5 Tryz.ntmps5 rfl rfl (hw) ?_
    repeat' first
      | (refine J.isJ ?_; first | (first | (refine J.o 6 ?_; refine J.bx (fun b2 => ?_))) | (first | (refine J.o 0 ?_; refine J.ev' hΓ ?_) | refine J.nil ?_ | refine J.kd ?_ | (refine J.o 4 ?_; first | refine J.lT default hΓ ?_ | refine J.lR hΓ ?_) | (refine J.o 3 ?_; first | refine J.iJ hΓ ?_ | refine J.ev' hΓ ?_) | (refine J.o 1 ?_; first | refine J.ad ?_) | (refine J.o 6 ?_; refine J.bx (fun _ => ?_)) | (refine J.o 10 ?_; refine J.ev' hΓ ?_) | (refine J.o 11 ?_; refine J.ev' hΓ ?_)) | ((fail_if_success refine J.wt ?_); refine J.gc rfl rfl (fun hc => ?_) (fun hc => ?_) <;> ((try simp only [decide_eq_true_eq, decide_eq_false_iff_not, beq_iff_eq, beq_eq_false_iff_ne, bne_iff_ne, bne_eq_false_iff_eq, Bool.not_eq_true', Bool.not_eq_false', Bool.not_eq_true, Bool.not_eq_false] at hc) <;> first | (first | (exact absurd rfl hc) | (exfalso; omega) | (exact absurd (hc.symm.trans (by assumption : _ = false)) (by decide)) | (exact absurd (hc.symm.trans (by assumption : _ = true)) (by decide))) | skip)))
      | (first | refine JC.seq ?_ | refine JC.region ?_ | refine JC.block ?_ | refine JC.ret ?_ | refine JC.exit ?_ | refine JC.skip ?_ | refine thenK.nn ?_ | refine thenK.r ?_ | refine thenK.x ?_ | refine blockK.nn ?_ | refine blockK.r ?_ | refine blockK.hit rfl ?_ | refine JC.condT rfl ?_ | (refine JC.cond rfl (fun hc => ?_) (fun hc => ?_) <;> ((try simp only [decide_eq_true_eq, decide_eq_false_iff_not, beq_iff_eq, beq_eq_false_iff_ne, bne_iff_ne, bne_eq_false_iff_eq, Bool.not_eq_true', Bool.not_eq_false', Bool.not_eq_true, Bool.not_eq_false] at hc) <;> first | (first | (exact absurd rfl hc) | (exfalso; omega) | (exact absurd (hc.symm.trans (by assumption : _ = false)) (by decide)) | (exact absurd (hc.symm.trans (by assumption : _ = true)) (by decide))) | skip)) | refine loopK.r ?_ | refine loopK.x ?_)
      | (fail)
      | fail
    all_goals first | (exfalso; omega) | skip
    all_goals (refine ret1f rfl rfl rfl (fun w1 hw => ⟨rfl, hw.below⟩))
  obtain ⟨h1, h2, h3⟩ := hb
  refine calls_of_JC (R := h) Tryz.func5 Tryz.ntmps5 rfl rfl (hw) ?_
  repeat' first
    | (refine J.isJ ?_; first | (first | (refine J.o 6 ?_; refine J.bx (fun b2 => ?_))) | (first | (refine J.o 0 ?_; refine J.ev' hΓ ?_) | refine J.nil ?_ | refine J.kd ?_ | (refine J.o 4 ?_; first | refine J.lT default hΓ ?_ | refine J.lR hΓ ?_) | (refine J.o 3 ?_; first | refine J.iJ hΓ ?_ | refine J.ev' hΓ ?_) | (refine J.o 1 ?_; first | refine J.ad ?_) | (refine J.o 6 ?_; refine J.bx (fun _ => ?_)) | (refine J.o 10 ?_; refine J.ev' hΓ ?_) | (refine J.o 11 ?_; refine J.ev' hΓ ?_)) | ((fail_if_success refine J.wt ?_); refine J.gc rfl rfl (fun hc => ?_) (fun hc => ?_) <;> ((try simp only [decide_eq_true_eq, decide_eq_false_iff_not, beq_iff_eq, beq_eq_false_iff_ne, bne_iff_ne, bne_eq_false_iff_eq, Bool.not_eq_true', Bool.not_eq_false', Bool.not_eq_true, Bool.not_eq_false] at hc) <;> first | (first | (exact absurd rfl hc) | (exfalso; omega) | (exact absurd (hc.symm.trans (by assumption : _ = false)) (by decide)) | (exact absurd (hc.symm.trans (by assumption : _ = true)) (by decide))) | skip)))
    | (first | refine JC.seq ?_ | refine JC.region ?_ | refine JC.block ?_ | refine JC.ret ?_ | refine JC.exit ?_ | refine JC.skip ?_ | refine thenK.nn ?_ | refine thenK.r ?_ | refine thenK.x ?_ | refine blockK.nn ?_ | refine blockK.r ?_ | refine blockK.hit rfl ?_ | refine JC.condT rfl ?_ | (refine JC.cond rfl (fun hc => ?_) (fun hc => ?_) <;> ((try simp only [decide_eq_true_eq, decide_eq_false_iff_not, beq_iff_eq, beq_eq_false_iff_ne, bne_iff_ne, bne_eq_false_iff_eq, Bool.not_eq_true', Bool.not_eq_false', Bool.not_eq_true, Bool.not_eq_false] at hc) <;> first | (first | (exact absurd rfl hc) | (exfalso; omega) | (exact absurd (hc.symm.trans (by assumption : _ = false)) (by decide)) | (exact absurd (hc.symm.trans (by assumption : _ = true)) (by decide))) | skip)) | refine loopK.r ?_ | refine loopK.x ?_)
    | (fail)
    | fail
  all_goals first | (exfalso; omega) | skip
  refine JC.loop (fun i => i == 4 || i == 6 || Nat.ble 25 i) (fun m g L => ∃ (k : Nat), g 25 = .int .i64 (k : Int) ∧ k + m = vs.length ∧ (∀ j, j < k → (vs.getD j default).l.length ≤ 10) ∧ L = _) vs.length ⟨0, rfl, by omega, fun j hj => absurd hj (Nat.not_lt_zero _), rfl⟩ ?_
  rintro m g L ⟨k, e25, hkm, hall, rfl⟩
  refine JC.pin 25 e25 ?_
  rcases Nat.lt_or_ge k vs.length with hk | hk
  ·
    have hm := mem_g vs k hk
    by_cases hc10 : (vs.getD k default).l.length ≤ 10
    ·
      repeat' first
        | (refine J.isJ ?_; first | (first | (refine J.o 3 ?_; refine J.iJ hΓ ?_ (hs := ho)) | (refine J.o 4 ?_; first | refine J.lT default hΓ ?_ (hs := ho) (hr := q0 _))) | (first | (refine J.o 0 ?_; refine J.ev' hΓ ?_) | refine J.nil ?_ | refine J.kd ?_ | (refine J.o 4 ?_; first | refine J.lT default hΓ ?_ | refine J.lR hΓ ?_) | (refine J.o 3 ?_; first | refine J.iJ hΓ ?_ | refine J.ev' hΓ ?_) | (refine J.o 1 ?_; first | refine J.ad ?_) | (refine J.o 6 ?_; refine J.bx (fun _ => ?_)) | (refine J.o 10 ?_; refine J.ev' hΓ ?_) | (refine J.o 11 ?_; refine J.ev' hΓ ?_)) | ((fail_if_success refine J.wt ?_); refine J.gc rfl rfl (fun hc => ?_) (fun hc => ?_) <;> ((try simp only [decide_eq_true_eq, decide_eq_false_iff_not, beq_iff_eq, beq_eq_false_iff_ne, bne_iff_ne, bne_eq_false_iff_eq, Bool.not_eq_true', Bool.not_eq_false', Bool.not_eq_true, Bool.not_eq_false] at hc) <;> first | (first | (exact absurd rfl hc) | (exfalso; omega) | (exact absurd (hc.symm.trans (by assumption : _ = false)) (by decide)) | (exact absurd (hc.symm.trans (by assumption : _ = true)) (by decide))) | skip)))
        | (first | refine JC.seq ?_ | refine JC.region ?_ | refine JC.block ?_ | refine JC.ret ?_ | refine JC.exit ?_ | refine JC.skip ?_ | refine thenK.nn ?_ | refine thenK.r ?_ | refine thenK.x ?_ | refine blockK.nn ?_ | refine blockK.r ?_ | refine blockK.hit rfl ?_ | refine JC.condT rfl ?_ | (refine JC.cond rfl (fun hc => ?_) (fun hc => ?_) <;> ((try simp only [decide_eq_true_eq, decide_eq_false_iff_not, beq_iff_eq, beq_eq_false_iff_ne, bne_iff_ne, bne_eq_false_iff_eq, Bool.not_eq_true', Bool.not_eq_false', Bool.not_eq_true, Bool.not_eq_false] at hc) <;> first | (first | (exact absurd rfl hc) | (exfalso; omega) | (exact absurd (hc.symm.trans (by assumption : _ = false)) (by decide)) | (exact absurd (hc.symm.trans (by assumption : _ = true)) (by decide))) | skip)) | refine loopK.r ?_ | refine loopK.x ?_)
        | (fail)
        | fail
      all_goals first | (exfalso; omega) | skip
      refine loopK.nn (m - 1) (by omega) (by repeat (first | refine Ag.upd rfl ?_ | exact Ag.hv)) ⟨k + 1, ?_, by omega, fun j hj => ?_, rfl⟩
      · show Value.int .i64 _ = _; congr 1
      · rcases Nat.lt_or_ge j k with g | g
        · exact hall j g
        · obtain rfl : j = k := by omega
          exact hc10
    ·
      rw [hno _ (fun g => g.2.2.2.1 _ (List.mem_map_of_mem (f := (·.l)) hm)) hc10]
      repeat' first
        | (refine J.isJ ?_; first | (first | (refine J.o 3 ?_; refine J.iJ hΓ ?_ (hs := ho)) | (refine J.o 4 ?_; first | refine J.lT default hΓ ?_ (hs := ho) (hr := q0 _))) | (first | (refine J.o 0 ?_; refine J.ev' hΓ ?_) | refine J.nil ?_ | refine J.kd ?_ | (refine J.o 4 ?_; first | refine J.lT default hΓ ?_ | refine J.lR hΓ ?_) | (refine J.o 3 ?_; first | refine J.iJ hΓ ?_ | refine J.ev' hΓ ?_) | (refine J.o 1 ?_; first | refine J.ad ?_) | (refine J.o 6 ?_; refine J.bx (fun _ => ?_)) | (refine J.o 10 ?_; refine J.ev' hΓ ?_) | (refine J.o 11 ?_; refine J.ev' hΓ ?_)) | ((fail_if_success refine J.wt ?_); refine J.gc rfl rfl (fun hc => ?_) (fun hc => ?_) <;> ((try simp only [decide_eq_true_eq, decide_eq_false_iff_not, beq_iff_eq, beq_eq_false_iff_ne, bne_iff_ne, bne_eq_false_iff_eq, Bool.not_eq_true', Bool.not_eq_false', Bool.not_eq_true, Bool.not_eq_false] at hc) <;> first | (first | (exact absurd rfl hc) | (exfalso; omega) | (exact absurd (hc.symm.trans (by assumption : _ = false)) (by decide)) | (exact absurd (hc.symm.trans (by assumption : _ = true)) (by decide))) | skip)))
        | (first | refine JC.seq ?_ | refine JC.region ?_ | refine JC.block ?_ | refine JC.ret ?_ | refine JC.exit ?_ | refine JC.skip ?_ | refine thenK.nn ?_ | refine thenK.r ?_ | refine thenK.x ?_ | refine blockK.nn ?_ | refine blockK.r ?_ | refine blockK.hit rfl ?_ | refine JC.condT rfl ?_ | (refine JC.cond rfl (fun hc => ?_) (fun hc => ?_) <;> ((try simp only [decide_eq_true_eq, decide_eq_false_iff_not, beq_iff_eq, beq_eq_false_iff_ne, bne_iff_ne, bne_eq_false_iff_eq, Bool.not_eq_true', Bool.not_eq_false', Bool.not_eq_true, Bool.not_eq_false] at hc) <;> first | (first | (exact absurd rfl hc) | (exfalso; omega) | (exact absurd (hc.symm.trans (by assumption : _ = false)) (by decide)) | (exact absurd (hc.symm.trans (by assumption : _ = true)) (by decide))) | skip)) | refine loopK.r ?_ | refine loopK.x ?_)
        | (fail)
        | fail
      all_goals first | (exfalso; omega) | skip
      all_goals (refine ret1f rfl rfl rfl (fun w1 hw => ⟨rfl, hw.below⟩))
  ·
    have hiff : smallP n N (vs.map (·.l)) ↔ thE N (vs.map (·.l)) = 0 := ⟨fun g => g.2.2.2.2, fun g => ⟨h1, h2, by omega, fun c hc => by
      obtain ⟨v, hv, rfl⟩ := List.mem_map.1 hc
      obtain ⟨j, hj, rfl⟩ := List.mem_iff_getElem.1 hv
      have := hall j (by omega)
      rw [List.getD_eq_getElem?_getD, List.getElem?_eq_getElem hj] at this
      exact this, g⟩⟩
    rw [show decide (smallP n N (vs.map (·.l))) = decide (thE N (vs.map (·.l)) = 0) from decide_eq_decide.2 hiff]
    repeat' first
      | (refine J.isJ ?_; first | (first | (refine J.o 4 ?_; refine J.lR hΓ ?_ (hr := Rd.hd)) | (refine J.fc 22 ?_; refine J.call0 eCheck05 rfl rfl (fun w hw => cC w (hw.rdH (q0 _))) ?_)) | (first | (refine J.o 0 ?_; refine J.ev' hΓ ?_) | refine J.nil ?_ | refine J.kd ?_ | (refine J.o 4 ?_; first | refine J.lT default hΓ ?_ | refine J.lR hΓ ?_) | (refine J.o 3 ?_; first | refine J.iJ hΓ ?_ | refine J.ev' hΓ ?_) | (refine J.o 1 ?_; first | refine J.ad ?_) | (refine J.o 6 ?_; refine J.bx (fun _ => ?_)) | (refine J.o 10 ?_; refine J.ev' hΓ ?_) | (refine J.o 11 ?_; refine J.ev' hΓ ?_)) | ((fail_if_success refine J.wt ?_); refine J.gc rfl rfl (fun hc => ?_) (fun hc => ?_) <;> ((try simp only [decide_eq_true_eq, decide_eq_false_iff_not, beq_iff_eq, beq_eq_false_iff_ne, bne_iff_ne, bne_eq_false_iff_eq, Bool.not_eq_true', Bool.not_eq_false', Bool.not_eq_true, Bool.not_eq_false] at hc) <;> first | (first | (exact absurd rfl hc) | (exfalso; omega) | (exact absurd (hc.symm.trans (by assumption : _ = false)) (by decide)) | (exact absurd (hc.symm.trans (by assumption : _ = true)) (by decide))) | skip)))
      | (first | refine JC.seq ?_ | refine JC.region ?_ | refine JC.block ?_ | refine JC.ret ?_ | refine JC.exit ?_ | refine JC.skip ?_ | refine thenK.nn ?_ | refine thenK.r ?_ | refine thenK.x ?_ | refine blockK.nn ?_ | refine blockK.r ?_ | refine blockK.hit rfl ?_ | refine JC.condT rfl ?_ | (refine JC.cond rfl (fun hc => ?_) (fun hc => ?_) <;> ((try simp only [decide_eq_true_eq, decide_eq_false_iff_not, beq_iff_eq, beq_eq_false_iff_ne, bne_iff_ne, bne_eq_false_iff_eq, Bool.not_eq_true', Bool.not_eq_false', Bool.not_eq_true, Bool.not_eq_false] at hc) <;> first | (first | (exact absurd rfl hc) | (exfalso; omega) | (exact absurd (hc.symm.trans (by assumption : _ = false)) (by decide)) | (exact absurd (hc.symm.trans (by assumption : _ = true)) (by decide))) | skip)) | refine loopK.r ?_ | refine loopK.x ?_)
      | (fail)
      | fail
    all_goals first | (exfalso; omega) | skip
    all_goals (refine ret1f rfl rfl rfl (fun w1 hw => ⟨?_, hw.below⟩))
    all_goals (refine congrArg (fun b => Ending.returned (.bool b)) ?_)
    all_goals rfl
theorem same3_any (f g : List Int) (af ag : Option Addr) (cf cg : Nat) (h : Heap) (sf : SlT encI 1 af f h) (sg : SlT encI 1 ag g h) (hl : f.length ≤ 100000) (hl2 : g.length ≤ 100000) (w : World) (hw1 : Holds h w) :
    Calls Tryz.prog 25 #[.slice af f.length cf, .slice ag g.length cg] w fun e w' => e = .returned (.bool (decide (f = g))) ∧ Below w.heap.size w w' := by
  have q0 : ∀ L, RdH h L h := fun L => RdH.old fun _ hh => hh
  by_cases hlen : f.length = g.length
  case neg =>
    rw [decide_eq_false (fun e => hlen (by rw [e]))]
    refine calls_of_JC (R := h) Tryz.func25 Tryz.ntmps25 rfl rfl (hw1) ?_
    repeat' first
      | (refine J.isJ ?_; first | (fail) | (first | (refine J.o 0 ?_; refine J.ev' hΓ ?_) | refine J.nil ?_ | (refine J.o 4 ?_; first | refine J.lT default hΓ ?_) | (refine J.o 3 ?_; first | refine J.iJ hΓ ?_ | refine J.ev' hΓ ?_) | (refine J.o 1 ?_; first | refine J.ad ?_) | (refine J.o 10 ?_; refine J.ev' hΓ ?_) | (refine J.o 11 ?_; refine J.ev' hΓ ?_)))
      | (first | refine JC.seq ?_ | refine JC.region ?_ | refine JC.block ?_ | refine JC.ret ?_ | refine JC.exit ?_ | refine JC.skip ?_ | refine thenK.nn ?_ | refine thenK.r ?_ | refine thenK.x ?_ | refine blockK.nn ?_ | refine blockK.r ?_ | refine blockK.hit rfl ?_ | refine JC.condT rfl ?_ | refine JC.condF rfl ?_ | (refine JC.cond rfl (fun hc => ?_) (fun hc => ?_) <;> ((try simp only [decide_eq_true_eq, decide_eq_false_iff_not, beq_iff_eq, beq_eq_false_iff_ne, bne_iff_ne, bne_eq_false_iff_eq, Bool.not_eq_true', Bool.not_eq_false', Bool.not_eq_true, Bool.not_eq_false] at hc) <;> first | (first | (exact absurd rfl hc) | (exfalso; omega) | (exact absurd (hc.symm.trans (by assumption : _ = false)) (by decide)) | (exact absurd (hc.symm.trans (by assumption : _ = true)) (by decide))) | skip)) | refine drawK.nn ?_ | refine loopK.r ?_ | refine loopK.x ?_)
      | (fail)
      | fail
    all_goals first | (exfalso; omega) | skip
    all_goals (refine ret1f rfl rfl rfl (fun w1 hw => ⟨rfl, hw.below⟩))
  refine calls_of_JC (R := h) Tryz.func25 Tryz.ntmps25 rfl rfl (hw1) ?_
  repeat' first
    | (refine J.isJ ?_; first | (fail) | (first | (refine J.o 0 ?_; refine J.ev' hΓ ?_) | refine J.nil ?_ | (refine J.o 4 ?_; first | refine J.lT default hΓ ?_) | (refine J.o 3 ?_; first | refine J.iJ hΓ ?_ | refine J.ev' hΓ ?_) | (refine J.o 1 ?_; first | refine J.ad ?_) | (refine J.o 10 ?_; refine J.ev' hΓ ?_) | (refine J.o 11 ?_; refine J.ev' hΓ ?_)))
    | (first | refine JC.seq ?_ | refine JC.region ?_ | refine JC.block ?_ | refine JC.ret ?_ | refine JC.exit ?_ | refine JC.skip ?_ | refine thenK.nn ?_ | refine thenK.r ?_ | refine thenK.x ?_ | refine blockK.nn ?_ | refine blockK.r ?_ | refine blockK.hit rfl ?_ | refine JC.condT rfl ?_ | refine JC.condF rfl ?_ | (refine JC.cond rfl (fun hc => ?_) (fun hc => ?_) <;> ((try simp only [decide_eq_true_eq, decide_eq_false_iff_not, beq_iff_eq, beq_eq_false_iff_ne, bne_iff_ne, bne_eq_false_iff_eq, Bool.not_eq_true', Bool.not_eq_false', Bool.not_eq_true, Bool.not_eq_false] at hc) <;> first | (first | (exact absurd rfl hc) | (exfalso; omega) | (exact absurd (hc.symm.trans (by assumption : _ = false)) (by decide)) | (exact absurd (hc.symm.trans (by assumption : _ = true)) (by decide))) | skip)) | refine drawK.nn ?_ | refine loopK.r ?_ | refine loopK.x ?_)
    | (fail)
    | fail
  all_goals first | (exfalso; omega) | skip
  refine JC.loop (fun i => i == 4 || i == 5 || Nat.ble 11 i) (fun m gg L => ∃ q : Nat, gg 5 = .int .i64 (q : Int) ∧ q + m = f.length ∧ (∀ j, j < q → f.getD j default = g.getD j default) ∧ L = []) f.length ⟨0, rfl, by omega, fun j hj => absurd hj (Nat.not_lt_zero _), rfl⟩ ?_
  rintro m gg L ⟨q, e5, hqm, heq, rfl⟩
  refine JC.pin 5 e5 ?_
  rcases Nat.lt_or_ge q f.length with hq | hq
  ·
    by_cases hx : f.getD q default = g.getD q default
    ·
      have hd : (f.getD q default != g.getD q default) = false := by rw [hx]; simp
      repeat' first
        | (refine J.isJ ?_; first | (first | (refine J.o 3 ?_; first | refine J.iJ hΓ ?_ (hs := sf) | refine J.iJ hΓ ?_ (hs := sg)) | (refine J.o 4 ?_; first | refine J.lT default hΓ ?_ (hs := sf) (hr := q0 _) | refine J.lT default hΓ ?_ (hs := sg) (hr := q0 _)) | (refine J.o 11 ?_; refine J.ev' hΓ ?_; rw [hd])) | (first | (refine J.o 0 ?_; refine J.ev' hΓ ?_) | refine J.nil ?_ | (refine J.o 4 ?_; first | refine J.lT default hΓ ?_) | (refine J.o 3 ?_; first | refine J.iJ hΓ ?_ | refine J.ev' hΓ ?_) | (refine J.o 1 ?_; first | refine J.ad ?_) | (refine J.o 10 ?_; refine J.ev' hΓ ?_) | (refine J.o 11 ?_; refine J.ev' hΓ ?_)))
        | (first | refine JC.seq ?_ | refine JC.region ?_ | refine JC.block ?_ | refine JC.ret ?_ | refine JC.exit ?_ | refine JC.skip ?_ | refine thenK.nn ?_ | refine thenK.r ?_ | refine thenK.x ?_ | refine blockK.nn ?_ | refine blockK.r ?_ | refine blockK.hit rfl ?_ | refine JC.condT rfl ?_ | refine JC.condF rfl ?_ | (refine JC.cond rfl (fun hc => ?_) (fun hc => ?_) <;> ((try simp only [decide_eq_true_eq, decide_eq_false_iff_not, beq_iff_eq, beq_eq_false_iff_ne, bne_iff_ne, bne_eq_false_iff_eq, Bool.not_eq_true', Bool.not_eq_false', Bool.not_eq_true, Bool.not_eq_false] at hc) <;> first | (first | (exact absurd rfl hc) | (exfalso; omega) | (exact absurd (hc.symm.trans (by assumption : _ = false)) (by decide)) | (exact absurd (hc.symm.trans (by assumption : _ = true)) (by decide))) | skip)) | refine drawK.nn ?_ | refine loopK.r ?_ | refine loopK.x ?_)
        | ((refine JC.drawW [] [] (by kernel_rfl) (by kernel_rfl) ?_))
        | fail
      all_goals first | (exfalso; omega) | skip
      refine loopK.nn (m - 1) (by omega) (by repeat (first | refine Ag.upd rfl ?_ | exact Ag.hv)) ⟨q + 1, ?_, by omega, fun j hj => ?_, rfl⟩
      · show Value.int .i64 _ = _; congr 1
      · rcases Nat.lt_or_ge j q with g1 | g1
        · exact heq j g1
        · obtain rfl : j = q := by omega
          exact hx
    ·
      have hd : (f.getD q default != g.getD q default) = true := by simpa using hx
      rw [decide_eq_false (fun e => hx (by rw [e]))]
      repeat' first
        | (refine J.isJ ?_; first | (first | (refine J.o 3 ?_; first | refine J.iJ hΓ ?_ (hs := sf) | refine J.iJ hΓ ?_ (hs := sg)) | (refine J.o 4 ?_; first | refine J.lT default hΓ ?_ (hs := sf) (hr := q0 _) | refine J.lT default hΓ ?_ (hs := sg) (hr := q0 _)) | (refine J.o 11 ?_; refine J.ev' hΓ ?_; rw [hd])) | (first | (refine J.o 0 ?_; refine J.ev' hΓ ?_) | refine J.nil ?_ | (refine J.o 4 ?_; first | refine J.lT default hΓ ?_) | (refine J.o 3 ?_; first | refine J.iJ hΓ ?_ | refine J.ev' hΓ ?_) | (refine J.o 1 ?_; first | refine J.ad ?_) | (refine J.o 10 ?_; refine J.ev' hΓ ?_) | (refine J.o 11 ?_; refine J.ev' hΓ ?_)))
        | (first | refine JC.seq ?_ | refine JC.region ?_ | refine JC.block ?_ | refine JC.ret ?_ | refine JC.exit ?_ | refine JC.skip ?_ | refine thenK.nn ?_ | refine thenK.r ?_ | refine thenK.x ?_ | refine blockK.nn ?_ | refine blockK.r ?_ | refine blockK.hit rfl ?_ | refine JC.condT rfl ?_ | refine JC.condF rfl ?_ | (refine JC.cond rfl (fun hc => ?_) (fun hc => ?_) <;> ((try simp only [decide_eq_true_eq, decide_eq_false_iff_not, beq_iff_eq, beq_eq_false_iff_ne, bne_iff_ne, bne_eq_false_iff_eq, Bool.not_eq_true', Bool.not_eq_false', Bool.not_eq_true, Bool.not_eq_false] at hc) <;> first | (first | (exact absurd rfl hc) | (exfalso; omega) | (exact absurd (hc.symm.trans (by assumption : _ = false)) (by decide)) | (exact absurd (hc.symm.trans (by assumption : _ = true)) (by decide))) | skip)) | refine drawK.nn ?_ | refine loopK.r ?_ | refine loopK.x ?_)
        | ((refine JC.drawW [] [] (by kernel_rfl) (by kernel_rfl) ?_))
        | fail
      all_goals first | (exfalso; omega) | skip
      all_goals (refine ret1f rfl rfl rfl (fun w1 hw => ⟨rfl, hw.below⟩))
  ·
    have he : f = g := by
      refine List.ext_getElem hlen fun i h1 h2 => ?_
      have := heq i (by omega)
      rw [List.getD_eq_getElem?_getD, List.getD_eq_getElem?_getD, List.getElem?_eq_getElem h1, List.getElem?_eq_getElem h2] at this
      exact this
    rw [decide_eq_true he]
    repeat' first
      | (refine J.isJ ?_; first | (fail) | (first | (refine J.o 0 ?_; refine J.ev' hΓ ?_) | refine J.nil ?_ | (refine J.o 4 ?_; first | refine J.lT default hΓ ?_) | (refine J.o 3 ?_; first | refine J.iJ hΓ ?_ | refine J.ev' hΓ ?_) | (refine J.o 1 ?_; first | refine J.ad ?_) | (refine J.o 10 ?_; refine J.ev' hΓ ?_) | (refine J.o 11 ?_; refine J.ev' hΓ ?_)))
      | (first | refine JC.seq ?_ | refine JC.region ?_ | refine JC.block ?_ | refine JC.ret ?_ | refine JC.exit ?_ | refine JC.skip ?_ | refine thenK.nn ?_ | refine thenK.r ?_ | refine thenK.x ?_ | refine blockK.nn ?_ | refine blockK.r ?_ | refine blockK.hit rfl ?_ | refine JC.condT rfl ?_ | refine JC.condF rfl ?_ | (refine JC.cond rfl (fun hc => ?_) (fun hc => ?_) <;> ((try simp only [decide_eq_true_eq, decide_eq_false_iff_not, beq_iff_eq, beq_eq_false_iff_ne, bne_iff_ne, bne_eq_false_iff_eq, Bool.not_eq_true', Bool.not_eq_false', Bool.not_eq_true, Bool.not_eq_false] at hc) <;> first | (first | (exact absurd rfl hc) | (exfalso; omega) | (exact absurd (hc.symm.trans (by assumption : _ = false)) (by decide)) | (exact absurd (hc.symm.trans (by assumption : _ = true)) (by decide))) | skip)) | refine drawK.nn ?_ | refine loopK.r ?_ | refine loopK.x ?_)
      | (fail)
      | fail
    all_goals first | (exfalso; omega) | skip
    all_goals (refine ret1f rfl rfl rfl (fun w1 hw => ⟨rfl, hw.below⟩))
end Go.Proofs.YtbhgahjeocnfcaaGreat
namespace Go.Proofs.YtbhgahjeocnfcaaGreat
open Go Go.Cx Go.RowKit
set_option linter.unusedVariables false
set_option linter.unusedSimpArgs false
set_option maxHeartbeats 4000000
attribute [local irreducible] J JC thenK blockK loopK roundK drawK retK QW Qt pel List.set Calls
open Go.Maps Go.Lib
set_option maxRecDepth 8000
attribute [local irreducible] JE Br eK0 eK3 brK pc
def mapD (b : Nat) : Obj := .cells ⟨[.map (some b)]⟩ 67 (0, 0)
end Go.Proofs.YtbhgahjeocnfcaaGreat
namespace Go.Proofs.YtbhgahjeocnfcaaGreat
open Go Go.Cx Go.RowKit
set_option linter.unusedVariables false
set_option linter.unusedSimpArgs false
set_option maxHeartbeats 4000000
attribute [local irreducible] J JC thenK blockK loopK roundK drawK retK QW Qt pel List.set Calls
open Go.Maps Go.Lib
set_option maxRecDepth 8000
attribute [local irreducible] JE Br eK0 eK3 brK pc
abbrev BF := (Nat → Bool) → Bool
end Go.Proofs.YtbhgahjeocnfcaaGreat
namespace Go.Proofs.YtbhgahjeocnfcaaGreat
open Go Go.Cx Go.RowKit
set_option linter.unusedVariables false
set_option linter.unusedSimpArgs false
set_option maxHeartbeats 4000000
attribute [local irreducible] J JC thenK blockK loopK roundK drawK retK QW Qt pel List.set Calls
open Go.Maps Go.Lib
set_option maxRecDepth 8000
attribute [local irreducible] JE Br eK0 eK3 brK pc
theorem natI_len (l : List Nat) : (natI l).length = l.length := List.length_map _
theorem lvls_len (n : Nat) (ns : List N3) (i : Nat) : ∀ m, ((List.range m).flatMap (lvl n ns i)).length = 2 ^ m - 1
  | 0 => rfl
  | m + 1 => by
    have := Nat.one_le_two_pow (n := m)
    rw [List.range_succ, List.flatMap_append, List.length_append, lvls_len n ns i m, List.flatMap_cons, List.flatMap_nil, List.append_nil, lvl_len, Nat.pow_succ]; omega
theorem rch_len {n : Nat} {ns : List N3} (w : WF n ns) {i : Nat} (hi : i < ns.length) {A : List Nat} (hn : A.Nodup) (h : ∀ x ∈ A, Rch ns i x) : A.length ≤ 2 ^ n + 1 := by
  have hs : ∀ x ∈ A, x ∈ 0 :: 1 :: (List.range n).flatMap (lvl n ns i) := fun x hx => by
    rcases Nat.lt_or_ge x 2 with h2 | h2
    · have : x = 0 ∨ x = 1 := by omega
      rcases this with rfl | rfl <;> simp
    · have hr := h x hx
      have hp := w.pl x h2 (hr.lt w hi)
      refine List.mem_cons_of_mem _ (List.mem_cons_of_mem _ (List.mem_flatMap.2 ⟨(nd ns x).p, List.mem_range.2 hp, ?_⟩))
      exact ((lvl_iff w hi hp).2 ⟨hr, h2, rfl⟩).1
  have := nodup_sub _ _ hn hs
  have h1 := Nat.one_le_two_pow (n := n)
  rw [List.length_cons, List.length_cons, lvls_len] at this
  omega
end Go.Proofs.YtbhgahjeocnfcaaGreat
namespace Go.Proofs.YtbhgahjeocnfcaaGreat
open Go Go.Cx Go.RowKit
set_option linter.unusedVariables false
set_option linter.unusedSimpArgs false
set_option maxHeartbeats 4000000
attribute [local irreducible] J JC thenK blockK loopK roundK drawK retK QW Qt pel List.set Calls
open Go.Maps Go.Lib
set_option maxRecDepth 8000
attribute [local irreducible] JE Br eK0 eK3 brK pc
def fillL (T : Nat → Bool) (N q : Nat) : List Bool := (List.range q).map T ++ List.replicate (N - q) false
theorem fill_0 (T : Nat → Bool) (N : Nat) : fillL T N 0 = List.replicate N false := by simp [fillL]
theorem fill_n (T : Nat → Bool) (N : Nat) : fillL T N N = (List.range N).map T := by simp [fillL]
theorem fill_len (T : Nat → Bool) {N q : Nat} (h : q ≤ N) : (fillL T N q).length = N := by simp [fillL]; omega
theorem fill_s (T : Nat → Bool) {N q : Nat} (h : q < N) : (fillL T N q).set q (T q) = fillL T N (q + 1) := by
  unfold fillL
  have e : N - q = (N - (q + 1)) + 1 := by omega
  rw [e, List.replicate_succ, List.set_append_right _ _ (by simp), List.range_succ, List.map_append]
  simp
def tabF (n : Nat) (g : BF) : List Bool := (List.range (2 ^ n)).map fun r => g (asg n r)
end Go.Proofs.YtbhgahjeocnfcaaGreat
namespace Go.Proofs.YtbhgahjeocnfcaaGreat
open Go Go.Cx Go.RowKit
set_option linter.unusedVariables false
set_option linter.unusedSimpArgs false
set_option maxHeartbeats 4000000
attribute [local irreducible] J JC thenK blockK loopK roundK drawK retK QW Qt pel List.set Calls
open Go.Maps Go.Lib
set_option maxRecDepth 8000
attribute [local irreducible] JE Br eK0 eK3 brK pc
theorem and_pw (q m : Nat) : q &&& 2 ^ m = (q / 2 ^ m % 2) * 2 ^ m := by
  apply Nat.eq_of_testBit_eq
  intro i
  rw [Nat.testBit_and, Nat.testBit_two_pow, Nat.mul_comm, show 2 ^ m * (q / 2 ^ m % 2) = 2 ^ m * (q / 2 ^ m % 2) + 0 from rfl, Nat.testBit_two_pow_mul_add _ (Nat.two_pow_pos m)]
  rcases Nat.lt_trichotomy i m with h | h | h
  · simp [h]; omega
  · subst h; simp [Nat.testBit_eq_decide_div_mod_eq]
  · rw [if_neg (by omega)]
    have : m ≠ i := by omega
    simp [this]
    have h2 : q / 2 ^ m % 2 < 2 := Nat.mod_lt _ (by decide)
    apply Nat.testBit_lt_two_pow
    exact Nat.lt_of_lt_of_le h2 (by rw [show 2 = 2 ^ 1 from rfl]; exact Nat.pow_le_pow_right (by decide) (by omega))
def gi (m : Nat) (b : Bool) (q : Nat) : Nat := q - (q &&& 2 ^ m) + (if b then 2 ^ m else 0)
theorem q_split (q m : Nat) : q = 2 ^ m * (2 * (q / 2 ^ (m + 1)) + q / 2 ^ m % 2) + q % 2 ^ m := by
  have h1 := Nat.div_add_mod q (2 ^ m)
  have h2 := Nat.div_add_mod (q / 2 ^ m) 2
  have h3 : q / 2 ^ m / 2 = q / 2 ^ (m + 1) := by rw [Nat.div_div_eq_div_mul, Nat.pow_succ]
  rw [h3] at h2
  rw [h2, h1]
theorem gi_eq (m : Nat) (b : Bool) (q : Nat) : gi m b q = 2 ^ m * (2 * (q / 2 ^ (m + 1)) + (if b then 1 else 0)) + q % 2 ^ m := by
  have h := q_split q m
  unfold gi
  rw [and_pw]
  have e : q - q / 2 ^ m % 2 * 2 ^ m = 2 ^ m * (2 * (q / 2 ^ (m + 1))) + q % 2 ^ m := by
    rw [Nat.mul_add] at h
    have : q / 2 ^ m % 2 * 2 ^ m = 2 ^ m * (q / 2 ^ m % 2) := Nat.mul_comm _ _
    omega
  rw [e]
  cases b
  · simp
  · simp only [if_true]; rw [Nat.mul_add]; omega
theorem gi_bit (m : Nat) (b : Bool) (q j : Nat) : (gi m b q).testBit j = if j = m then b else q.testBit j := by
  have hlo : q % 2 ^ m < 2 ^ m := Nat.mod_lt _ (Nat.two_pow_pos m)
  rw [gi_eq, Nat.testBit_two_pow_mul_add _ hlo]
  have hq : q.testBit j = (2 ^ m * (2 * (q / 2 ^ (m + 1)) + q / 2 ^ m % 2) + q % 2 ^ m).testBit j := by rw [← q_split]
  rw [hq, Nat.testBit_two_pow_mul_add _ hlo]
  by_cases h : j < m
  · rw [if_pos h, if_pos h, if_neg (by omega)]
  · rw [if_neg h, if_neg h]
    by_cases he : j = m
    · subst he
      rw [if_pos rfl, Nat.sub_self, Nat.testBit_zero]
      cases b <;> simp <;> omega
    · rw [if_neg he]
      obtain ⟨i, hi⟩ : ∃ i, j - m = i + 1 := ⟨j - m - 1, by omega⟩
      rw [hi, Nat.testBit_succ, Nat.testBit_succ]
      congr 1
      cases b <;> simp <;> omega
theorem gi_lt {n m : Nat} (hm : m < n) (b : Bool) {q : Nat} (hq : q < 2 ^ n) : gi m b q < 2 ^ n := by
  apply Nat.lt_pow_two_of_testBit
  intro i hi
  rw [gi_bit, if_neg (by omega)]
  exact Nat.testBit_lt_two_pow (Nat.lt_of_lt_of_le hq (Nat.pow_le_pow_right (by decide) hi))
end Go.Proofs.YtbhgahjeocnfcaaGreat
namespace Go.Proofs.YtbhgahjeocnfcaaGreat
open Go Go.Cx Go.RowKit
set_option linter.unusedVariables false
set_option linter.unusedSimpArgs false
set_option maxHeartbeats 4000000
attribute [local irreducible] J JC thenK blockK loopK roundK drawK retK QW Qt pel List.set Calls
open Go.Maps Go.Lib
set_option maxRecDepth 8000
attribute [local irreducible] JE Br eK0 eK3 brK pc
theorem Order_any {n : Nat} {K : KS} {s : SS} (so : SOk n K s) {order : List Int} {hO hP : Heap} (po : POk K order hO hP) (b : Nat) (w : World) (hw : Holds (stR K b s hO) w) :
    Calls Tryz.prog 21 #[.pointer (some ⟨b, 0, none⟩)] w (Gives (fun v g => ∃ a' c', v = .slice a' order.length c' ∧ OwT encI 1 3 a' c' order g) w) := by
  have hpl := po.len
  have hn := ord_le order po.ok
  have hso : SlT encI 1 K.ao order (stR K b s hO) := po.ow.sl.sub fun y hy => List.mem_cons_of_mem _ (List.mem_append_right _ hy)
  have rb : ∀ L, Rd (stR K b s hO) L b (stO K s.an s.ns.length s.cn) := fun L => Rd.old List.mem_cons_self
  have q0 : ∀ L, RdH (stR K b s hO) L (stR K b s hO) := fun L => RdH.old fun _ hh => hh
  have cC := fun w hw => clone_any K.ao K.co order (stR K b s hO) hso (by omega) w hw
  rw [← hpl] at cC ⊢
  unfold stO at rb
  refine calls_of_JC (R := (stR K b s hO)) Tryz.func21 Tryz.ntmps21 rfl rfl (hw) ?_
  repeat' first
    | (refine J.isJ ?_; first | (first | (refine J.o 11 ?_; refine J.pN hΓ ?_) | (refine J.o 4 ?_; refine J.lR hΓ ?_ (hr := rb _)) | (refine J.fc 53 ?_; refine J.call1 eClone rfl rfl (fun w hw => cC w (hw.rdH (q0 _))) ?_; rintro _ hg ⟨a1, c1, rfl, o1⟩)) | (first | (refine J.o 0 ?_; refine J.ev' hΓ ?_) | refine J.nil ?_ | (refine J.o 4 ?_; first | refine J.lR hΓ ?_) | (refine J.o 3 ?_; first | refine J.ev' hΓ ?_) | (refine J.o 10 ?_; refine J.ev' hΓ ?_) | (refine J.o 11 ?_; refine J.ev' hΓ ?_)))
    | (first | refine JC.seq ?_ | refine JC.region ?_ | refine JC.ret ?_ | refine JC.skip ?_ | refine thenK.nn ?_ | refine JC.condF rfl ?_)
    | (fail)
    | fail
  all_goals first | (exfalso; omega) | skip
  all_goals exact ret1f rfl rfl rfl (fun w1 hw => Gives.of hw ⟨a1, c1, rfl, o1⟩)
end Go.Proofs.YtbhgahjeocnfcaaGreat
namespace Go.Proofs.YtbhgahjeocnfcaaGreat
open Go Go.Cx Go.RowKit
set_option linter.unusedVariables false
set_option linter.unusedSimpArgs false
set_option maxHeartbeats 4000000
attribute [local irreducible] J JC thenK blockK loopK roundK drawK retK QW Qt pel List.set Calls
open Go.Maps Go.Lib
set_option maxRecDepth 8000
attribute [local irreducible] JE Br eK0 eK3 brK pc
structure TV where
  a : Option Addr
  c : Nat
  g : BF
instance : Inhabited TV := ⟨⟨none, 0, fun _ => false⟩⟩
theorem own_le {α : Type} {enc : α → List Value} {size : Nat} {e : TypeId} {a : Option Addr} {cap : Nat} {ts : List α} {h : Heap} (o : OwT enc size e a cap ts h) : ts.length ≤ cap := by
  rcases o.row with ⟨_, rfl, rfl, _⟩ | ⟨_, _, _, _, _, h, _⟩
  · exact Nat.le_refl _
  · exact h
end Go.Proofs.YtbhgahjeocnfcaaGreat
namespace Go.Proofs.YtbhgahjeocnfcaaGreat
open Go Go.Cx Go.RowKit
set_option linter.unusedVariables false
set_option linter.unusedSimpArgs false
set_option maxHeartbeats 4000000
attribute [local irreducible] J JC thenK blockK loopK roundK drawK retK QW Qt pel List.set Calls
open Go.Maps Go.Lib
set_option maxRecDepth 8000
attribute [local irreducible] JE Br eK0 eK3 brK pc
theorem list_eq {f g : List Bool} (hl : f.length = g.length) (h : ∀ j, j < f.length → f.getD j default = g.getD j default) : f = g := by
  refine List.ext_getElem hl fun i h1 h2 => ?_
  have := h i h1
  rw [List.getD_eq_getElem?_getD, List.getD_eq_getElem?_getD, List.getElem?_eq_getElem h1, List.getElem?_eq_getElem h2] at this
  exact this
end Go.Proofs.YtbhgahjeocnfcaaGreat
