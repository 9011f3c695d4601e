/- SiftKnown: part 8. -/
import Derived.Test.YtbhgahjeocnfcaaKnG
namespace Go.Proofs.Ytbhgahjeocnfcaa
open Go Go.Cx Go.RowKit
set_option linter.unusedVariables false
set_option linter.unusedSimpArgs false
set_option maxHeartbeats 4000000
attribute [local irreducible] J JC thenK blockK loopK roundK drawK retK QW Qt pel List.set Calls
open Go.Maps Go.Lib
set_option maxRecDepth 8000
attribute [local irreducible] JE Br eK0 eK3 brK pc
theorem eInsC : Entr Try.prog 154 := Entr.of Try.func154 rfl rfl
theorem ePdqC : Entr Try.prog 141 := Entr.of Try.func141 rfl rfl
theorem eSortF : Entr Try.prog 109 := Entr.of Try.func109 rfl rfl
theorem eBLen : Entr Try.prog 142 := Entr.of Try.func142 rfl rfl
structure CmpOk (fc : FuncId) (lb : List Value) (cm : Int → Int → Int) (l : List Int) (hM : Heap) : Prop where
  en : Entr Try.prog fc
  gv : ∀ x ∈ l, ∀ y ∈ l, ∀ w, Holds hM w → Calls Try.prog fc ⟨[.int .i64 x, .int .i64 y] ++ lb⟩ w fun e w' => e = .returned (.int .i64 (cm x y)) ∧ Below w.heap.size w w'
  tot : ∀ x ∈ l, ∀ y ∈ l, x ≠ y → ¬ cm x y < 0 → cm y x < 0
  tr : ∀ x ∈ l, ∀ y ∈ l, ∀ z ∈ l, cm x y < 0 → cm y z < 0 → cm x z < 0
def SrtI (cm : Int → Int → Int) (d : List Int) (i j : Nat) : Prop := ∀ p q, p < q → q ≤ i → q ≠ j → cm (d.getD p default) (d.getD q default) < 0
def SrtO (cm : Int → Int → Int) (d : List Int) (i : Nat) : Prop := ∀ p q, p < q → q < i → cm (d.getD p default) (d.getD q default) < 0
theorem getD_mem {d : List Int} {k : Nat} (h : k < d.length) : d.getD k default ∈ d := by
  rw [List.getD_eq_getElem?_getD, List.getElem?_eq_getElem h]
  exact List.getElem_mem h
theorem SrtI.step {cm : Int → Int → Int} {d : List Int} {i j : Nat} (h : SrtI cm d i (j + 1)) (hi : i < d.length) (hj : j + 1 ≤ i) (hc : cm (d.getD (j + 1) default) (d.getD j default) < 0) : SrtI cm (swp d j) i j := fun p q hpq hq hne => by
  have hd : j + 1 < d.length := by omega
  rw [swp_get d hd, swp_get d hd]
  by_cases h1 : q = j + 1
  · subst h1
    rw [if_neg (by omega : ¬ j + 1 = j), if_pos rfl]
    by_cases h2 : p = j
    · rw [if_pos h2]; exact hc
    · rw [if_neg h2, if_neg (by omega)]
      exact h p j (by omega) (by omega) (by omega)
  · rw [if_neg hne, if_neg h1]
    by_cases h2 : p = j
    · rw [if_pos h2]; exact h (j + 1) q (by omega) hq h1
    · rw [if_neg h2]
      by_cases h3 : p = j + 1
      · rw [if_pos h3]; exact h j q (by omega) hq h1
      · rw [if_neg h3]; exact h p q hpq hq h1
theorem SrtI.done {cm : Int → Int → Int} {l d : List Int} {i j : Nat} {fc : FuncId} {lb : List Value} {hM : Heap} (cok : CmpOk fc lb cm l hM) (hp : d.Perm l) (hn : l.Nodup) (h : SrtI cm d i j) (hi : i < d.length) (hj : j ≤ i) (hc : j = 0 ∨ ¬ cm (d.getD j default) (d.getD (j - 1) default) < 0) : SrtO cm d (i + 1) := fun p q hpq hq => by
  have hm : ∀ k, k < d.length → d.getD k default ∈ l := fun k hk => hp.mem_iff.1 (getD_mem hk)
  by_cases h1 : q = j
  · subst h1
    rcases hc with h0 | hc
    · omega
    · have hne : d.getD q default ≠ d.getD (q - 1) default := fun e => by
        have := getD_inj (hp.nodup_iff.2 hn) (by omega) (by omega) e
        omega
      have h2 := cok.tot _ (hm q (by omega)) _ (hm (q - 1) (by omega)) hne hc
      by_cases h3 : p = q - 1
      · rw [h3]; exact h2
      · exact cok.tr _ (hm p (by omega)) _ (hm (q - 1) (by omega)) _ (hm q (by omega)) (h p (q - 1) (by omega) (by omega) (by omega)) h2
  · exact h p q hpq (by omega) h1
theorem insC_any {fc : FuncId} {lb : List Value} {cm : Int → Int → Int} {l : List Int} {hM : Heap} (cok : CmpOk fc lb cm l hM) (hn : l.Nodup) (hl : l.length ≤ 12) {a : Option Addr} {c : Nat} {hQ : Heap} (oQ : OwT encI 1 3 a c l hQ) {w0 w : World} {R : Heap} {L : List Heap} (rM : RdH R L hM) (hw : H w0 R (hQ :: L) w) :
    Calls Try.prog 154 #[.slice a l.length c, .int .i64 0, .int .i64 (l.length : Int), .func (.func fc) ⟨[]⟩ ⟨lb⟩] w fun e w' => ∃ v L', e = .returned v ∧ H w0 R L' w' ∧ ∃ d hD, v = .tuple #[] ∧ L' = hD :: L ∧ d.Perm l ∧ SrtO cm d d.length ∧ OwT encI 1 3 a c d hD := by
  refine calls_in Try.func154 Try.ntmps154 rfl rfl (hw) ?_
  repeat' first
    | (refine J.isJ ?_; first | (fail) | (first | (refine J.o 0 ?_; refine J.ev' hΓ ?_) | refine J.nil ?_ | refine J.kd ?_ | (refine J.o 4 ?_; first | refine J.lT default hΓ ?_) | (refine J.o 3 ?_; first | refine J.iJ hΓ ?_ | refine J.ev' hΓ ?_) | (refine J.o 1 ?_; first | refine J.ad ?_ | refine J.sb ?_) | (refine J.o 5 ?_; first | refine J.tT _ default hΓ (fun _ _ => ?_)) | (refine J.o 10 ?_; refine J.ev' hΓ ?_) | (refine J.o 11 ?_; refine J.ev' hΓ ?_)) | ((fail_if_success refine J.wt ?_); refine J.gc rfl rfl (fun hc => ?_) (fun hc => ?_) <;> ((try simp only [decide_eq_true_eq, decide_eq_false_iff_not, beq_iff_eq, beq_eq_false_iff_ne, bne_iff_ne, bne_eq_false_iff_eq, Bool.not_eq_true', Bool.not_eq_false', Bool.not_eq_true, Bool.not_eq_false] at hc) <;> first | (first | (exact absurd rfl hc) | (exfalso; omega) | (exact absurd (hc.symm.trans (by assumption : _ = false)) (by decide)) | (exact absurd (hc.symm.trans (by assumption : _ = true)) (by decide))) | skip)))
    | (first | refine JC.seq ?_ | refine JC.region ?_ | refine JC.block ?_ | refine JC.exit ?_ | refine JC.skip ?_ | refine thenK.nn ?_ | refine thenK.x ?_ | refine blockK.nn ?_ | refine blockK.hit rfl ?_ | refine JC.condF rfl ?_ | (refine JC.cond rfl (fun hc => ?_) (fun hc => ?_) <;> ((try simp only [decide_eq_true_eq, decide_eq_false_iff_not, beq_iff_eq, beq_eq_false_iff_ne, bne_iff_ne, bne_eq_false_iff_eq, Bool.not_eq_true', Bool.not_eq_false', Bool.not_eq_true, Bool.not_eq_false] at hc) <;> first | (first | (exact absurd rfl hc) | (exfalso; omega) | (exact absurd (hc.symm.trans (by assumption : _ = false)) (by decide)) | (exact absurd (hc.symm.trans (by assumption : _ = true)) (by decide))) | skip)) | refine drawK.nn ?_ | refine loopK.x ?_)
    | (fail)
    | fail
  all_goals first | (exfalso; omega) | skip
  refine JC.loop (fun i => i == 8 || i == 9 || Nat.ble 12 i) (fun k g L' => ∃ (i : Nat) (d : List Int) (hD : Heap), g 8 = .int .i64 (i : Int) ∧ i + k = l.length + 1 ∧ 1 ≤ i ∧ L' = hD :: L ∧ d.Perm l ∧ SrtO cm d i ∧ OwT encI 1 3 a c d hD) l.length ⟨1, l, hQ, rfl, by omega, Nat.le_refl _, rfl, .refl _, fun p q h1 h2 => by omega, oQ⟩ ?_
  rintro k g _ ⟨i, d, hD, e8, hik, hi1, rfl, hp, hs, oD⟩
  have hdl : d.length = l.length := hp.length_eq
  refine JC.pin 8 e8 ?_
  rcases Nat.lt_or_ge i l.length with hil | hil
  case inr =>
    repeat' first
      | (refine J.isJ ?_; first | (fail) | (first | (refine J.o 0 ?_; refine J.ev' hΓ ?_) | refine J.nil ?_ | refine J.kd ?_ | (refine J.o 4 ?_; first | refine J.lT default hΓ ?_) | (refine J.o 3 ?_; first | refine J.iJ hΓ ?_ | refine J.ev' hΓ ?_) | (refine J.o 1 ?_; first | refine J.ad ?_ | refine J.sb ?_) | (refine J.o 5 ?_; first | refine J.tT _ default hΓ (fun _ _ => ?_)) | (refine J.o 10 ?_; refine J.ev' hΓ ?_) | (refine J.o 11 ?_; refine J.ev' hΓ ?_)) | ((fail_if_success refine J.wt ?_); refine J.gc rfl rfl (fun hc => ?_) (fun hc => ?_) <;> ((try simp only [decide_eq_true_eq, decide_eq_false_iff_not, beq_iff_eq, beq_eq_false_iff_ne, bne_iff_ne, bne_eq_false_iff_eq, Bool.not_eq_true', Bool.not_eq_false', Bool.not_eq_true, Bool.not_eq_false] at hc) <;> first | (first | (exact absurd rfl hc) | (exfalso; omega) | (exact absurd (hc.symm.trans (by assumption : _ = false)) (by decide)) | (exact absurd (hc.symm.trans (by assumption : _ = true)) (by decide))) | skip)))
      | (first | refine JC.seq ?_ | refine JC.region ?_ | refine JC.block ?_ | refine JC.exit ?_ | refine JC.skip ?_ | refine thenK.nn ?_ | refine thenK.x ?_ | refine blockK.nn ?_ | refine blockK.hit rfl ?_ | refine JC.condF rfl ?_ | (refine JC.cond rfl (fun hc => ?_) (fun hc => ?_) <;> ((try simp only [decide_eq_true_eq, decide_eq_false_iff_not, beq_iff_eq, beq_eq_false_iff_ne, bne_iff_ne, bne_eq_false_iff_eq, Bool.not_eq_true', Bool.not_eq_false', Bool.not_eq_true, Bool.not_eq_false] at hc) <;> first | (first | (exact absurd rfl hc) | (exfalso; omega) | (exact absurd (hc.symm.trans (by assumption : _ = false)) (by decide)) | (exact absurd (hc.symm.trans (by assumption : _ = true)) (by decide))) | skip)) | refine drawK.nn ?_ | refine loopK.x ?_)
      | (fail)
      | fail
    all_goals first | (exfalso; omega) | skip
    refine ret0n rfl (fun w hw => ⟨_, _, rfl, hw, d, hD, rfl, rfl, hp, ?_, oD⟩)
    exact fun p q h1 h2 => hs p q h1 (by omega)
  repeat' first
    | (refine J.isJ ?_; first | (fail) | (first | (refine J.o 0 ?_; refine J.ev' hΓ ?_) | refine J.nil ?_ | refine J.kd ?_ | (refine J.o 4 ?_; first | refine J.lT default hΓ ?_) | (refine J.o 3 ?_; first | refine J.iJ hΓ ?_ | refine J.ev' hΓ ?_) | (refine J.o 1 ?_; first | refine J.ad ?_ | refine J.sb ?_) | (refine J.o 5 ?_; first | refine J.tT _ default hΓ (fun _ _ => ?_)) | (refine J.o 10 ?_; refine J.ev' hΓ ?_) | (refine J.o 11 ?_; refine J.ev' hΓ ?_)) | ((fail_if_success refine J.wt ?_); refine J.gc rfl rfl (fun hc => ?_) (fun hc => ?_) <;> ((try simp only [decide_eq_true_eq, decide_eq_false_iff_not, beq_iff_eq, beq_eq_false_iff_ne, bne_iff_ne, bne_eq_false_iff_eq, Bool.not_eq_true', Bool.not_eq_false', Bool.not_eq_true, Bool.not_eq_false] at hc) <;> first | (first | (exact absurd rfl hc) | (exfalso; omega) | (exact absurd (hc.symm.trans (by assumption : _ = false)) (by decide)) | (exact absurd (hc.symm.trans (by assumption : _ = true)) (by decide))) | skip)))
    | (first | refine JC.seq ?_ | refine JC.region ?_ | refine JC.block ?_ | refine JC.exit ?_ | refine JC.skip ?_ | refine thenK.nn ?_ | refine thenK.x ?_ | refine blockK.nn ?_ | refine blockK.hit rfl ?_ | refine JC.condF rfl ?_ | (refine JC.cond rfl (fun hc => ?_) (fun hc => ?_) <;> ((try simp only [decide_eq_true_eq, decide_eq_false_iff_not, beq_iff_eq, beq_eq_false_iff_ne, bne_iff_ne, bne_eq_false_iff_eq, Bool.not_eq_true', Bool.not_eq_false', Bool.not_eq_true, Bool.not_eq_false] at hc) <;> first | (first | (exact absurd rfl hc) | (exfalso; omega) | (exact absurd (hc.symm.trans (by assumption : _ = false)) (by decide)) | (exact absurd (hc.symm.trans (by assumption : _ = true)) (by decide))) | skip)) | refine drawK.nn ?_ | refine loopK.x ?_)
    | (fail)
    | fail
  all_goals first | (exfalso; omega) | skip
  refine JC.loop (fun i => i == 9 || Nat.ble 18 i) (fun k2 g L' => ∃ (j : Nat) (d : List Int) (hD : Heap), g 9 = .int .i64 (j : Int) ∧ j = k2 ∧ j ≤ i ∧ L' = hD :: L ∧ d.Perm l ∧ SrtI cm d i j ∧ OwT encI 1 3 a c d hD) i ⟨i, d, hD, rfl, rfl, Nat.le_refl _, rfl, hp, fun p q h1 h2 h3 => hs p q h1 (by omega), oD⟩ ?_
  clear oD hs hp hdl hD d
  rintro k2 g2 _ ⟨j, d, hD, e9, rfl, hji, rfl, hp, hs, oD⟩
  have hdl : d.length = l.length := hp.length_eq
  have hm : ∀ k, k < l.length → d.getD k default ∈ l := fun k hk => hp.mem_iff.1 (getD_mem (by omega))
  refine JC.pin 9 e9 ?_
  rcases Nat.eq_zero_or_pos j with hj0 | hj0
  case inl =>
    subst hj0
    have hs1 := hs.done cok hp hn (by omega) (by omega) (.inl rfl)
    repeat' first
      | (refine J.isJ ?_; first | (fail) | (first | (refine J.o 0 ?_; refine J.ev' hΓ ?_) | refine J.nil ?_ | refine J.kd ?_ | (refine J.o 4 ?_; first | refine J.lT default hΓ ?_) | (refine J.o 3 ?_; first | refine J.iJ hΓ ?_ | refine J.ev' hΓ ?_) | (refine J.o 1 ?_; first | refine J.ad ?_ | refine J.sb ?_) | (refine J.o 5 ?_; first | refine J.tT _ default hΓ (fun _ _ => ?_)) | (refine J.o 10 ?_; refine J.ev' hΓ ?_) | (refine J.o 11 ?_; refine J.ev' hΓ ?_)) | ((fail_if_success refine J.wt ?_); refine J.gc rfl rfl (fun hc => ?_) (fun hc => ?_) <;> ((try simp only [decide_eq_true_eq, decide_eq_false_iff_not, beq_iff_eq, beq_eq_false_iff_ne, bne_iff_ne, bne_eq_false_iff_eq, Bool.not_eq_true', Bool.not_eq_false', Bool.not_eq_true, Bool.not_eq_false] at hc) <;> first | (first | (exact absurd rfl hc) | (exfalso; omega) | (exact absurd (hc.symm.trans (by assumption : _ = false)) (by decide)) | (exact absurd (hc.symm.trans (by assumption : _ = true)) (by decide))) | skip)))
      | (first | refine JC.seq ?_ | refine JC.region ?_ | refine JC.block ?_ | refine JC.exit ?_ | refine JC.skip ?_ | refine thenK.nn ?_ | refine thenK.x ?_ | refine blockK.nn ?_ | refine blockK.hit rfl ?_ | refine JC.condF rfl ?_ | (refine JC.cond rfl (fun hc => ?_) (fun hc => ?_) <;> ((try simp only [decide_eq_true_eq, decide_eq_false_iff_not, beq_iff_eq, beq_eq_false_iff_ne, bne_iff_ne, bne_eq_false_iff_eq, Bool.not_eq_true', Bool.not_eq_false', Bool.not_eq_true, Bool.not_eq_false] at hc) <;> first | (first | (exact absurd rfl hc) | (exfalso; omega) | (exact absurd (hc.symm.trans (by assumption : _ = false)) (by decide)) | (exact absurd (hc.symm.trans (by assumption : _ = true)) (by decide))) | skip)) | refine drawK.nn ?_ | refine loopK.x ?_)
      | ((refine JC.drawA [] (by decide +kernel) (by decide +kernel) ?_))
      | fail
    all_goals first | (exfalso; omega) | skip
    refine loopK.nn (k - 1) (by omega) (by repeat (first | refine Ag.upd rfl ?_ | exact Ag.hv | refine Ag.hv2 (fun i hi => by simp at hi ⊢; omega) ?_)) ⟨i + 1, d, hD, ?_, by omega, by omega, rfl, hp, hs1, oD⟩
    show Value.int .i64 _ = _; congr 1
  obtain ⟨j, rfl⟩ : ∃ m, j = m + 1 := ⟨j - 1, by omega⟩
  have hq : (((j + 1 : Nat) : Int) - 1).toNat = j := by omega
  have hj1 : j + 1 < d.length := by omega
  repeat' first
    | (refine J.isJ ?_; first | (first | (refine J.o 3 ?_; refine J.iJ hΓ ?_ (hs := oD.sl)) | (refine J.o 4 ?_; refine J.lT default hΓ ?_ (hs := oD.sl) (hr := RdH.hd)) | (refine J.o 9 ?_; refine J.callv0 cok.en rfl rfl rfl (fun w hw => cok.gv _ (hm _ (by omega)) _ (hm _ (by omega)) w (hw.rdH rM.tl)) ?_) | (refine J.o 5 ?_; first | refine J.tT (enc := encI) (d.getD j default) default hΓ (fun h5 o5 => ?_) (ho := oD))) | (first | (refine J.o 0 ?_; refine J.ev' hΓ ?_) | refine J.nil ?_ | refine J.kd ?_ | (refine J.o 4 ?_; first | refine J.lT default hΓ ?_) | (refine J.o 3 ?_; first | refine J.iJ hΓ ?_ | refine J.ev' hΓ ?_) | (refine J.o 1 ?_; first | refine J.ad ?_ | refine J.sb ?_) | (refine J.o 5 ?_; first | refine J.tT _ default hΓ (fun _ _ => ?_)) | (refine J.o 10 ?_; refine J.ev' hΓ ?_) | (refine J.o 11 ?_; refine J.ev' hΓ ?_)) | ((fail_if_success refine J.wt ?_); refine J.gc rfl rfl (fun hc => ?_) (fun hc => ?_) <;> ((try simp only [decide_eq_true_eq, decide_eq_false_iff_not, beq_iff_eq, beq_eq_false_iff_ne, bne_iff_ne, bne_eq_false_iff_eq, Bool.not_eq_true', Bool.not_eq_false', Bool.not_eq_true, Bool.not_eq_false] at hc) <;> first | (first | (exact absurd rfl hc) | (exfalso; omega) | (exact absurd (hc.symm.trans (by assumption : _ = false)) (by decide)) | (exact absurd (hc.symm.trans (by assumption : _ = true)) (by decide))) | skip)))
    | (first | refine JC.seq ?_ | refine JC.region ?_ | refine JC.block ?_ | refine JC.exit ?_ | refine JC.skip ?_ | refine thenK.nn ?_ | refine thenK.x ?_ | refine blockK.nn ?_ | refine blockK.hit rfl ?_ | refine JC.condF rfl ?_ | (refine JC.cond rfl (fun hc => ?_) (fun hc => ?_) <;> ((try simp only [decide_eq_true_eq, decide_eq_false_iff_not, beq_iff_eq, beq_eq_false_iff_ne, bne_iff_ne, bne_eq_false_iff_eq, Bool.not_eq_true', Bool.not_eq_false', Bool.not_eq_true, Bool.not_eq_false] at hc) <;> first | (first | (exact absurd rfl hc) | (exfalso; omega) | (exact absurd (hc.symm.trans (by assumption : _ = false)) (by decide)) | (exact absurd (hc.symm.trans (by assumption : _ = true)) (by decide))) | skip)) | refine drawK.nn ?_ | refine loopK.x ?_)
    | (first | (refine JC.drawO [(0,0),(0,1),(0,2),(0,3),(0,4),(0,5),(0,6),(0,7),(0,8),(1,9),(0,10),(0,11),(0,12),(1,13),(0,14),(2,15),(0,16),(2,17)] (by decide +kernel) (by decide +kernel) ?_) | (refine JC.drawA [] (by decide +kernel) (by decide +kernel) ?_))
    | fail
  all_goals first | (exfalso; omega) | skip
  · rename_i _ h5 o5 h6 o6
    rw [hq] at hc o6
    have o7 : OwT encI 1 3 a c (swp d j) h6 := by
      unfold swp
      rw [List.set_comm _ _ (by omega)]
      exact o6
    refine loopK.nn j (by omega) (by repeat (first | refine Ag.upd rfl ?_ | exact Ag.hv | refine Ag.hv2 (fun i hi => by simp at hi ⊢; omega) ?_)) ⟨j, swp d j, h6, ?_, rfl, by omega, rfl, (swp_perm d hj1).trans hp, hs.step (by omega) hji hc, o7⟩
    show Value.int .i64 _ = _; congr 1; omega
  · rw [hq] at hc
    have hs1 := hs.done cok hp hn (by omega) hji (.inr hc)
    refine loopK.nn (k - 1) (by omega) (by repeat (first | refine Ag.upd rfl ?_ | exact Ag.hv | refine Ag.hv2 (fun i hi => by simp at hi ⊢; omega) ?_)) ⟨i + 1, d, hD, ?_, by omega, by omega, rfl, hp, hs1, oD⟩
    show Value.int .i64 _ = _; congr 1
theorem pdqC_any {fc : FuncId} {lb : List Value} {cm : Int → Int → Int} {l : List Int} {hM : Heap} (cok : CmpOk fc lb cm l hM) (hn : l.Nodup) (hl : l.length ≤ 12) {a : Option Addr} {c : Nat} {hQ : Heap} (oQ : OwT encI 1 3 a c l hQ) (x : Int) {w0 w : World} {R : Heap} {L : List Heap} (rM : RdH R L hM) (hw : H w0 R (hQ :: L) w) :
    Calls Try.prog 141 #[.slice a l.length c, .int .i64 0, .int .i64 (l.length : Int), .int .i64 x, .func (.func fc) ⟨[]⟩ ⟨lb⟩] w fun e w' => ∃ v L', e = .returned v ∧ H w0 R L' w' ∧ ∃ d hD, v = .tuple #[] ∧ L' = hD :: L ∧ d.Perm l ∧ SrtO cm d d.length ∧ OwT encI 1 3 a c d hD := by
  refine calls_in Try.func141 Try.ntmps141 rfl rfl (hw) ?_
  repeat' first
    | (refine J.isJ ?_; first | ((refine J.fc 154 ?_; refine J.callx eInsC rfl rfl (fun w hw => insC_any cok hn hl oQ rM hw) ?_; rintro _ _ ⟨d, hD, rfl, rfl, h1, h2, h3⟩)) | (first | (refine J.o 0 ?_; refine J.ev' hΓ ?_) | refine J.nil ?_ | (refine J.o 3 ?_; first | refine J.ev' hΓ ?_) | (refine J.o 1 ?_; first | refine J.sb ?_) | (refine J.o 10 ?_; refine J.ev' hΓ ?_) | (refine J.o 11 ?_; refine J.ev' hΓ ?_)))
    | (first | refine JC.seq ?_ | refine JC.region ?_ | refine JC.block ?_ | refine JC.ret ?_ | refine thenK.nn ?_ | refine thenK.r ?_ | refine blockK.r ?_ | (refine JC.cond rfl (fun hc => ?_) (fun hc => ?_) <;> ((try simp only [decide_eq_true_eq, decide_eq_false_iff_not, beq_iff_eq, beq_eq_false_iff_ne, bne_iff_ne, bne_eq_false_iff_eq, Bool.not_eq_true', Bool.not_eq_false', Bool.not_eq_true, Bool.not_eq_false] at hc) <;> first | (first | (exact absurd rfl hc) | (exfalso; omega) | (exact absurd (hc.symm.trans (by assumption : _ = false)) (by decide)) | (exact absurd (hc.symm.trans (by assumption : _ = true)) (by decide))) | skip)) | refine roundK.r ?_)
    | ((refine JC.rounds 0 ?_))
    | fail
  all_goals first | (exfalso; omega) | skip
  all_goals first | exact ret0 rfl (fun w hw => ⟨_, _, rfl, hw, d, hD, rfl, rfl, h1, h2, h3⟩) | exact ret0n rfl (fun w hw => ⟨_, _, rfl, hw, d, hD, rfl, rfl, h1, h2, h3⟩)
theorem sortF_any {fc : FuncId} {lb : List Value} {cm : Int → Int → Int} {l : List Int} {hM : Heap} (cok : CmpOk fc lb cm l hM) (hn : l.Nodup) (hl : l.length ≤ 12) {a : Option Addr} {c : Nat} {hQ : Heap} (oQ : OwT encI 1 3 a c l hQ) {w0 w : World} {R : Heap} {L : List Heap} (rM : RdH R L hM) (hw : H w0 R (hQ :: L) w) :
    Calls Try.prog 109 #[.slice a l.length c, .func (.func fc) ⟨[]⟩ ⟨lb⟩] w fun e w' => ∃ v L', e = .returned v ∧ H w0 R L' w' ∧ ∃ d hD, v = .tuple #[] ∧ L' = hD :: L ∧ d.Perm l ∧ SrtO cm d d.length ∧ OwT encI 1 3 a c d hD := by
  refine calls_in Try.func109 Try.ntmps109 rfl rfl (hw) ?_
  repeat' first
    | (refine J.isJ ?_; first | (first | (refine J.o 2 ?_; refine J.cv _ hΓ ?_) | (refine J.fc 142 ?_; refine J.call0 eBLen rfl rfl (fun w hw => (Try.bits_Len _ w (by omega) (by omega)).mono (by rintro e w' ⟨rfl, rfl⟩; exact ⟨rfl, Below.refl _ _⟩)) ?_) | (refine J.fc 141 ?_; refine J.callx ePdqC rfl rfl (fun w hw => pdqC_any cok hn hl oQ _ rM hw) ?_; rintro _ _ ⟨d, hD, rfl, rfl, h1, h2, h3⟩)) | (first | (refine J.o 0 ?_; refine J.ev' hΓ ?_) | refine J.nil ?_ | (refine J.o 3 ?_; first | refine J.ev' hΓ ?_) | (refine J.o 10 ?_; refine J.ev' hΓ ?_) | (refine J.o 11 ?_; refine J.ev' hΓ ?_)))
    | (first | refine JC.seq ?_ | refine JC.region ?_ | refine thenK.nn ?_)
    | (fail)
    | fail
  all_goals first | (exfalso; omega) | skip
  all_goals first | exact ret0 rfl (fun w hw => ⟨_, _, rfl, hw, d, hD, rfl, rfl, h1, h2, h3⟩) | exact ret0n rfl (fun w hw => ⟨_, _, rfl, hw, d, hD, rfl, rfl, h1, h2, h3⟩)
end Go.Proofs.Ytbhgahjeocnfcaa
namespace Go.Proofs.Ytbhgahjeocnfcaa
open Go Go.Cx Go.RowKit
set_option linter.unusedVariables false
set_option linter.unusedSimpArgs false
set_option maxHeartbeats 4000000
attribute [local irreducible] J JC thenK blockK loopK roundK drawK retK QW Qt pel List.set Calls
open Go.Maps Go.Lib
set_option maxRecDepth 8000
attribute [local irreducible] JE Br eK0 eK3 brK pc
section
variable {P : Program} {n : Nat} {w0 : World} {R : Heap} {K0 : Exit → Fr → List Heap → Prop} {f : Fr} {L : List Heap} {l0 : List Oper} {rest : List (Nat × Oper)} {q : Nat}
variable {Γ : List (Nat × TI)} {d : Nat} {ty : TypeId} {pos : String} {aft : Array Edge} {g : Option (Nat × Bool)}
variable {κ : Type} [DecidableEq κ] {kt e : TypeId} {ek : κ → Value}
theorem J.lkN {t : TypeId} {m x : Operand} {mm : List (κ × Nat)} {b : Nat} {h : Heap} {a : κ} {s1 s2 b1 b2 : Nat} {z1 : Option Value} {de : TypeDesc} (c : Nat) (K : Keyed P kt) (inj : ∀ x y, ek x = ek y → x = y) (mt : MapT P kt ek evI mm b h) (hr : RdH R L h) (hkey : ∃ l, keyOf P kt (ek a) = some l) (hΓ : Fits P Γ) (hget : (mget mm a).getD 0 = c)
    (k : J P n w0 R l0 K0 rest (upd f d (.int .i64 (c : Int))) L)
    (hg : wantB n f l0 ⟨some d, .lookup t m x false, ty, pos, aft, g⟩ = true := by exact rfl) (hm : Cx.ev n f m = .map (some b) := by exact rfl) (hx : Cx.ev n f x = ek a := by exact rfl) (ht : Go.Cx.look Γ t = some ⟨.map kt e, s1, z1, b1⟩ := by exact rfl) (he : Go.Cx.look Γ e = some ⟨de, s2, some (.int .i64 0), b2⟩ := by exact rfl) :
    J P n w0 R l0 K0 ((q + 1, ⟨some d, .lookup t m x false, ty, pos, aft, g⟩) :: rest) f L := by
  refine J.lk K inj mt hr hkey hΓ ?_ hg hm hx ht he
  subst hget
  cases hmm : mget mm a with
  | some y => rw [hmm] at k; exact k
  | none => rw [hmm] at k; exact k
end
end Go.Proofs.Ytbhgahjeocnfcaa
namespace Go.Proofs.Ytbhgahjeocnfcaa
open Go Go.Cx Go.RowKit
set_option linter.unusedVariables false
set_option linter.unusedSimpArgs false
set_option maxHeartbeats 4000000
attribute [local irreducible] J JC thenK blockK loopK roundK drawK retK QW Qt pel List.set Calls
open Go.Maps Go.Lib
set_option maxRecDepth 8000
attribute [local irreducible] JE Br eK0 eK3 brK pc
theorem eCmpS : Entr Try.prog 110 := Entr.of Try.func110 rfl rfl
theorem eSift : Entr Try.prog 51 := Entr.of Try.func51 rfl rfl
def cmS (W : Int → Nat) (x y : Int) : Int := if W x ≠ W y then (W y : Int) - W x else x - y
theorem cmpS_any {mm : List (Int × Nat)} {bm b8 : Nat} {hm : Heap} {W : Int → Nat} (mt : MapT Try.prog 3 ekI evI mm bm hm) (hW : ∀ u, (mget mm u).getD 0 = W u) (hb : ∀ u, W u ≤ 1000) (x y : Int) (hx : 1 ≤ x ∧ x ≤ 128) (hy : 1 ≤ y ∧ y ≤ 128) (w : World) (hw : Holds ([(b8, .cells ⟨[.map (some bm)]⟩ 40 (0, 0))] ++ hm) w) :
    Calls Try.prog 110 #[.int .i64 x, .int .i64 y, .pointer (some ⟨b8, 0, none⟩)] w fun e w' => e = .returned (.int .i64 (cmS W x y)) ∧ Below w.heap.size w w' := by
  have hbx := hb x
  have hby := hb y
  have q8 : ∀ L, Rd ([(b8, .cells ⟨[.map (some bm)]⟩ 40 (0, 0))] ++ hm) L b8 (.cells ⟨[.map (some bm)]⟩ 40 (0, 0)) := fun L => Rd.old (by simp)
  have qm : ∀ L, RdH ([(b8, .cells ⟨[.map (some bm)]⟩ 40 (0, 0))] ++ hm) L hm := fun L => RdH.old fun _ hh => List.mem_append_right _ hh
  have kx := keyI x (by omega)
  have ky := keyI y (by omega)
  unfold cmS
  by_cases hxy : W x = W y
  ·
    rw [if_neg (by simpa using hxy)]
    refine calls_of_JC (R := ([(b8, .cells ⟨[.map (some bm)]⟩ 40 (0, 0))] ++ hm)) Try.func110 Try.ntmps110 rfl rfl (hw) ?_
    repeat' first
      | (refine J.isJ ?_; first | (first | (refine J.o 4 ?_; refine J.lR hΓ ?_ (hr := q8 _)) | (refine J.o 9 ?_; first | refine J.lkN (a := x) (W x) keyedI ekI_inj mt (qm _) kx hΓ (hW x) ?_ | refine J.lkN (a := y) (W y) keyedI ekI_inj mt (qm _) ky hΓ (hW y) ?_)) | (first | (refine J.o 0 ?_; refine J.ev' hΓ ?_) | refine J.nil ?_ | (refine J.o 4 ?_; first | refine J.lR hΓ ?_) | (refine J.o 3 ?_; first | refine J.ev' hΓ ?_) | (refine J.o 1 ?_; first | refine J.sb ?_) | (refine J.o 10 ?_; refine J.ev' hΓ ?_) | (refine J.o 11 ?_; refine J.ev' hΓ ?_)))
      | (first | refine JC.seq ?_ | refine JC.region ?_ | refine JC.ret ?_ | refine JC.skip ?_ | refine thenK.nn ?_ | refine thenK.r ?_ | (refine JC.cond rfl (fun hc => ?_) (fun hc => ?_) <;> ((try simp only [decide_eq_true_eq, decide_eq_false_iff_not, beq_iff_eq, beq_eq_false_iff_ne, bne_iff_ne, bne_eq_false_iff_eq, Bool.not_eq_true', Bool.not_eq_false', Bool.not_eq_true, Bool.not_eq_false] at hc) <;> first | (first | (exact absurd rfl hc) | (exfalso; omega) | (exact absurd (hc.symm.trans (by assumption : _ = false)) (by decide)) | (exact absurd (hc.symm.trans (by assumption : _ = true)) (by decide))) | skip)))
      | (fail)
      | fail
    all_goals first | (exfalso; omega) | skip
    all_goals exact ret1f rfl rfl rfl (fun w1 hw => ⟨rfl, hw.below⟩)
  ·
    rw [if_pos hxy]
    refine calls_of_JC (R := ([(b8, .cells ⟨[.map (some bm)]⟩ 40 (0, 0))] ++ hm)) Try.func110 Try.ntmps110 rfl rfl (hw) ?_
    repeat' first
      | (refine J.isJ ?_; first | (first | (refine J.o 4 ?_; refine J.lR hΓ ?_ (hr := q8 _)) | (refine J.o 9 ?_; first | refine J.lkN (a := x) (W x) keyedI ekI_inj mt (qm _) kx hΓ (hW x) ?_ | refine J.lkN (a := y) (W y) keyedI ekI_inj mt (qm _) ky hΓ (hW y) ?_)) | (first | (refine J.o 0 ?_; refine J.ev' hΓ ?_) | refine J.nil ?_ | (refine J.o 4 ?_; first | refine J.lR hΓ ?_) | (refine J.o 3 ?_; first | refine J.ev' hΓ ?_) | (refine J.o 1 ?_; first | refine J.sb ?_) | (refine J.o 10 ?_; refine J.ev' hΓ ?_) | (refine J.o 11 ?_; refine J.ev' hΓ ?_)))
      | (first | refine JC.seq ?_ | refine JC.region ?_ | refine JC.ret ?_ | refine JC.skip ?_ | refine thenK.nn ?_ | refine thenK.r ?_ | (refine JC.cond rfl (fun hc => ?_) (fun hc => ?_) <;> ((try simp only [decide_eq_true_eq, decide_eq_false_iff_not, beq_iff_eq, beq_eq_false_iff_ne, bne_iff_ne, bne_eq_false_iff_eq, Bool.not_eq_true', Bool.not_eq_false', Bool.not_eq_true, Bool.not_eq_false] at hc) <;> first | (first | (exact absurd rfl hc) | (exfalso; omega) | (exact absurd (hc.symm.trans (by assumption : _ = false)) (by decide)) | (exact absurd (hc.symm.trans (by assumption : _ = true)) (by decide))) | skip)))
      | (fail)
      | fail
    all_goals first | (exfalso; omega) | skip
    all_goals exact ret1f rfl rfl rfl (fun w1 hw => ⟨rfl, hw.below⟩)
theorem cmS_ok {W : Int → Nat} {mm : List (Int × Nat)} {bm b8 : Nat} {hm : Heap} (mt : MapT Try.prog 3 ekI evI mm bm hm) (hW : ∀ u, (mget mm u).getD 0 = W u) (hb : ∀ u, W u ≤ 1000) {o : List Int} (ho : okOrd o) : CmpOk 110 [.pointer (some ⟨b8, 0, none⟩)] (cmS W) o ([(b8, .cells ⟨[.map (some bm)]⟩ 40 (0, 0))] ++ hm) :=
  ⟨eCmpS, fun x hx y hy w hw => cmpS_any mt hW hb x y (ho.1 x hx) (ho.1 y hy) w hw, fun x _ y _ hne h => by
    unfold cmS at h ⊢
    split at h <;> split <;> omega, fun x _ y _ z _ h1 h2 => by
    unfold cmS at h1 h2 ⊢
    split at h1 <;> split at h2 <;> split <;> omega⟩
def WtOf (ns : List N3) (o : List Int) (r : Nat) (W : Int → Nat) : Prop := ∃ S : List Nat, S.Nodup ∧ (∀ x, x ∈ S ↔ 2 ≤ x ∧ Rch ns r x) ∧ ∀ v, W v = cntV ns o S v
def sftO (F : VF) (q o : List Int) : List Int := q.foldl (fun o v => movO F o v) o
theorem movO_perm (F : VF) {o : List Int} {v : Int} (hv : v ∈ o) (hn : o.Nodup) : (movO F o v).Perm o := bestO_perm hv hn _ _
theorem sftO_perm (F : VF) : ∀ (q o : List Int), (∀ v ∈ q, v ∈ o) → o.Nodup → (sftO F q o).Perm o
  | [], o, _, _ => .refl _
  | v :: q, o, hv, hn => by
    have h1 := movO_perm F (hv v List.mem_cons_self) hn
    exact (sftO_perm F q (movO F o v) (fun u hu => h1.mem_iff.2 (hv u (List.mem_cons_of_mem _ hu))) (h1.nodup_iff.2 hn)).trans h1
theorem sftO_snoc (F : VF) (q : List Int) (v : Int) (o : List Int) : sftO F (q ++ [v]) o = movO F (sftO F q o) v := by
  unfold sftO
  rw [List.foldl_append]
  rfl
set_option maxHeartbeats 16000000 in
theorem Sift_any {F : VF} {o : List Int} {K : KS} {s : SS} {a : Nat} {hO hP : Heap} (sv : Stv F o K s a hO hP) (h8 : o.length ≤ 8) {w0 w : World} {R : Heap} {L : List Heap} {bs : Nat} (rS : RdH R L (stR K bs s hO)) (hw : H w0 R L w) :
    Calls Try.prog 51 #[.pointer (some ⟨bs, 0, none⟩), .int .i64 (a : Int)] w fun e w' => ∃ x L', e = .returned x ∧ H w0 R L' w' ∧ ∃ W q, WtOf s.ns o a W ∧ q.Perm o ∧ SrtO (cmS W) q q.length ∧ RebQ F (sftO F q o) L x L' := by
  have so := sv.so
  have ha := sv.sy.1
  have hnd := sv.ho.2
  have cO := fun w hw => Order_any so sv.po bs w hw
  have hol := so.no
  have hpl := sv.po.len
  refine calls_in Try.func51 Try.ntmps51 rfl rfl (hw) ?_
  repeat' first
    | (refine J.isJ ?_; first | (first | (refine J.fc 61 ?_; refine J.callx eChecked rfl rfl (fun w hw => checked_any so bs a ha rS hw) ?_; rintro _ _ ⟨rfl, rfl⟩) | (refine J.fc 108 ?_; refine J.call1 eWeights rfl rfl (fun w hw => weights_any so sv.po (by omega) bs a ha w (stR_of2 rS hw)) ?_; rintro _ hm ⟨bm, mm, S, rfl, mt, hSn, hSm, hSc⟩) | (refine J.o 7 ?_; refine J.al hΓ (fun b8 => ?_)) | (refine J.fc 19 ?_; refine J.call1 eOrder rfl rfl (fun w hw => cO w (stR_of2 rS.tl.tl hw)) ?_; rintro _ hQ ⟨aQ, cQ, rfl, oQ⟩) | (refine J.o 14 ?_; refine J.mf hΓ ?_)) | (first | (refine J.o 0 ?_; refine J.ev' hΓ ?_) | refine J.nil ?_ | (refine J.o 4 ?_; first | refine J.lT default hΓ ?_) | (refine J.o 3 ?_; first | refine J.iJ hΓ ?_ | refine J.ev' hΓ ?_) | (refine J.o 1 ?_; first | refine J.ad ?_) | (refine J.o 5 ?_; first | refine J.t0 hΓ ?_) | (refine J.o 7 ?_; refine J.al hΓ (fun _ => ?_)) | (refine J.o 10 ?_; refine J.ev' hΓ ?_) | (refine J.o 11 ?_; refine J.ev' hΓ ?_) | (refine J.o 14 ?_; refine J.mf hΓ ?_)))
    | (first | refine JC.seq ?_ | refine JC.region ?_ | refine JC.block ?_ | refine JC.ret ?_ | refine JC.exit ?_ | refine JC.skip ?_ | refine thenK.nn ?_ | refine thenK.x ?_ | refine blockK.nn ?_ | refine blockK.hit rfl ?_ | refine JC.condF rfl ?_ | (refine JC.cond rfl (fun hc => ?_) (fun hc => ?_) <;> ((try simp only [decide_eq_true_eq, decide_eq_false_iff_not, beq_iff_eq, beq_eq_false_iff_ne, bne_iff_ne, bne_eq_false_iff_eq, Bool.not_eq_true', Bool.not_eq_false', Bool.not_eq_true, Bool.not_eq_false] at hc) <;> first | (first | (exact absurd rfl hc) | (exfalso; omega) | (exact absurd (hc.symm.trans (by assumption : _ = false)) (by decide)) | (exact absurd (hc.symm.trans (by assumption : _ = true)) (by decide))) | skip)) | refine loopK.x ?_)
    | (fail)
    | fail
  all_goals first | (exfalso; omega) | skip
  rename_i L
  have hW : ∀ u, (mget mm u).getD 0 = cntV s.ns o S u := hSc
  have hWb : ∀ u, cntV s.ns o S u ≤ 1000 := fun u => by
    have h1 : cntV s.ns o S u ≤ S.length := List.length_filter_le _ _
    have h2 := rch_len so.wf ha hSn (fun x hx => ((hSm x).1 hx).2)
    have h3 := pow8 h8
    omega
  obtain ⟨W, hWd⟩ : ∃ W : Int → Nat, W = fun u => cntV s.ns o S u := ⟨_, rfl⟩
  have cok := cmS_ok (b8 := b8) mt (W := W) (fun u => by rw [hWd]; exact hSc u) (fun u => by rw [hWd]; exact hWb u) sv.ho
  have cO := fun w hw => Order_any so sv.po bs w hw
  repeat' first
    | (refine J.isJ ?_; first | (first | (refine J.fc 109 ?_; refine J.callx eSortF rfl rfl (fun w hw => sortF_any cok hnd (by omega) oQ (RdH.hd.append RdH.hd.tl) hw) ?_; rintro _ _ ⟨q, hD, rfl, rfl, hqp, hqs, oD⟩) | (refine J.fc 19 ?_; refine J.call1 eOrder rfl rfl (fun w hw => cO w (stR_of2 rS.tl.tl.tl hw)) ?_; rintro _ hQ2 ⟨aQ2, cQ2, rfl, oQ2⟩) | (refine J.fc 62 ?_; refine J.callx eReb2 rfl rfl (fun w hw => rebuilt_any sv h8 o rfl sv.ho (fun v h => h) aQ2 cQ2 hQ2 oQ2.sl rS.tl.tl.tl.tl RdH.hd hw) ?_; rintro _ _ ⟨b1, K1, s1, y1, hO1, hP1, rfl, rfl, sv1⟩)) | (first | (refine J.o 0 ?_; refine J.ev' hΓ ?_) | refine J.nil ?_ | (refine J.o 4 ?_; first | refine J.lT default hΓ ?_) | (refine J.o 3 ?_; first | refine J.iJ hΓ ?_ | refine J.ev' hΓ ?_) | (refine J.o 1 ?_; first | refine J.ad ?_) | (refine J.o 5 ?_; first | refine J.t0 hΓ ?_) | (refine J.o 7 ?_; refine J.al hΓ (fun _ => ?_)) | (refine J.o 10 ?_; refine J.ev' hΓ ?_) | (refine J.o 11 ?_; refine J.ev' hΓ ?_) | (refine J.o 14 ?_; refine J.mf hΓ ?_)))
    | (first | refine JC.seq ?_ | refine JC.region ?_ | refine JC.block ?_ | refine JC.ret ?_ | refine JC.exit ?_ | refine JC.skip ?_ | refine thenK.nn ?_ | refine thenK.x ?_ | refine blockK.nn ?_ | refine blockK.hit rfl ?_ | refine JC.condF rfl ?_ | (refine JC.cond rfl (fun hc => ?_) (fun hc => ?_) <;> ((try simp only [decide_eq_true_eq, decide_eq_false_iff_not, beq_iff_eq, beq_eq_false_iff_ne, bne_iff_ne, bne_eq_false_iff_eq, Bool.not_eq_true', Bool.not_eq_false', Bool.not_eq_true, Bool.not_eq_false] at hc) <;> first | (first | (exact absurd rfl hc) | (exfalso; omega) | (exact absurd (hc.symm.trans (by assumption : _ = false)) (by decide)) | (exact absurd (hc.symm.trans (by assumption : _ = true)) (by decide))) | skip)) | refine loopK.x ?_)
    | (fail)
    | fail
  all_goals first | (exfalso; omega) | skip
  have hql := hqp.length_eq
  refine JC.weak (L' := sF K1 b1 s1 ++ (hO1 :: hP1 :: hD :: L)) (fun w hw => H.sel (l := [_, _, _, _, _, _, _, _, _, _]) (M := L) hw [0, 1, 2, 3, 4, 5, 7]) ?_
  refine JC.loopG (fun i => i == 10 || i == 11 || i == 12 || i == 14 || Nat.ble 40 i) (fun m g L' => ∃ (i : Nat) (b : Nat) (K : KS) (s : SS) (y : Nat) (hO hP : Heap), g 40 = .int .i64 (i : Int) ∧ g 10 = .pointer (some ⟨b, 0, none⟩) ∧ g 11 = .int .i64 ((y : Nat) : Int) ∧ g 12 = .int .i64 0 ∧ i + m = o.length ∧ Stv F (sftO F (q.take i) o) K s y hO hP ∧ L' = sF K b s ++ (hO :: hP :: hD :: L)) o.length ⟨0, b1, K1, s1, y1, hO1, hP1, rfl, rfl, rfl, rfl, by omega, sv1, rfl⟩ ?_
  rintro m g _ ⟨i, b, Kc, sc, yc, hOc, hPc, e40, e10, e11, e12, him, svc, rfl⟩
  refine JC.pin 40 e40 (JC.pin 10 e10 (JC.pin 11 e11 (JC.pin 12 e12 ?_)))
  rcases Nat.lt_or_ge i o.length with hil | hil
  case inr =>
    obtain rfl : i = o.length := by omega
    rw [← hql, List.take_length] at svc
    repeat' first
      | (refine J.isJ ?_; first | (fail) | (first | (refine J.o 0 ?_; refine J.ev' hΓ ?_) | refine J.nil ?_ | (refine J.o 4 ?_; first | refine J.lT default hΓ ?_) | (refine J.o 3 ?_; first | refine J.iJ hΓ ?_ | refine J.ev' hΓ ?_) | (refine J.o 1 ?_; first | refine J.ad ?_) | (refine J.o 5 ?_; first | refine J.t0 hΓ ?_) | (refine J.o 7 ?_; refine J.al hΓ (fun _ => ?_)) | (refine J.o 10 ?_; refine J.ev' hΓ ?_) | (refine J.o 11 ?_; refine J.ev' hΓ ?_) | (refine J.o 14 ?_; refine J.mf hΓ ?_)))
      | (first | refine JC.seq ?_ | refine JC.region ?_ | refine JC.block ?_ | refine JC.ret ?_ | refine JC.exit ?_ | refine JC.skip ?_ | refine thenK.nn ?_ | refine thenK.x ?_ | refine blockK.nn ?_ | refine blockK.hit rfl ?_ | refine JC.condF rfl ?_ | (refine JC.cond rfl (fun hc => ?_) (fun hc => ?_) <;> ((try simp only [decide_eq_true_eq, decide_eq_false_iff_not, beq_iff_eq, beq_eq_false_iff_ne, bne_iff_ne, bne_eq_false_iff_eq, Bool.not_eq_true', Bool.not_eq_false', Bool.not_eq_true, Bool.not_eq_false] at hc) <;> first | (first | (exact absurd rfl hc) | (exfalso; omega) | (exact absurd (hc.symm.trans (by assumption : _ = false)) (by decide)) | (exact absurd (hc.symm.trans (by assumption : _ = true)) (by decide))) | skip)) | refine loopK.x ?_)
      | (fail)
      | fail
    all_goals first | (exfalso; omega) | skip
    exact ret3f rfl rfl rfl rfl rfl rfl rfl (fun w1 hw => ⟨_, _, rfl, H.drop6 hw, W, q, ⟨S, hSn, hSm, fun v => by rw [hWd]⟩, hqp, hqs, b, Kc, sc, yc, hOc, hPc, rfl, rfl, svc⟩)
  have hpc := sftO_perm F (q.take i) o (fun v hv => hqp.mem_iff.1 (List.mem_of_mem_take hv)) hnd
  have hlc := hpc.length_eq
  have hqi : q.getD i default ∈ sftO F (q.take i) o := hpc.mem_iff.2 (hqp.mem_iff.1 (getD_mem (by omega)))
  have hmv : movO F (sftO F (q.take i) o) (q.getD i default) = sftO F (q.take (i + 1)) o := by
    rw [← sftO_snoc, List.take_succ_eq_append_getElem (by omega), List.getD_eq_getElem?_getD, List.getElem?_eq_getElem (by omega)]
    rfl
  repeat' first
    | (refine J.isJ ?_; first | (first | (refine J.o 3 ?_; refine J.iJ hΓ ?_ (hs := oD.sl)) | (refine J.o 4 ?_; refine J.lT default hΓ ?_ (hs := oD.sl) (hr := RdH.app (sF Kc b sc) RdH.hd.tl.tl)) | (refine J.fc 111 ?_; refine J.callx eMoved rfl rfl (fun w hw => moved_any svc (by omega) hqi (stR_hd _) hw) ?_; rintro _ _ ⟨b2, K2, s2, y2, hO2, hP2, rfl, rfl, sv2⟩)) | (first | (refine J.o 0 ?_; refine J.ev' hΓ ?_) | refine J.nil ?_ | (refine J.o 4 ?_; first | refine J.lT default hΓ ?_) | (refine J.o 3 ?_; first | refine J.iJ hΓ ?_ | refine J.ev' hΓ ?_) | (refine J.o 1 ?_; first | refine J.ad ?_) | (refine J.o 5 ?_; first | refine J.t0 hΓ ?_) | (refine J.o 7 ?_; refine J.al hΓ (fun _ => ?_)) | (refine J.o 10 ?_; refine J.ev' hΓ ?_) | (refine J.o 11 ?_; refine J.ev' hΓ ?_) | (refine J.o 14 ?_; refine J.mf hΓ ?_)))
    | (first | refine JC.seq ?_ | refine JC.region ?_ | refine JC.block ?_ | refine JC.ret ?_ | refine JC.exit ?_ | refine JC.skip ?_ | refine thenK.nn ?_ | refine thenK.x ?_ | refine blockK.nn ?_ | refine blockK.hit rfl ?_ | refine JC.condF rfl ?_ | (refine JC.cond rfl (fun hc => ?_) (fun hc => ?_) <;> ((try simp only [decide_eq_true_eq, decide_eq_false_iff_not, beq_iff_eq, beq_eq_false_iff_ne, bne_iff_ne, bne_eq_false_iff_eq, Bool.not_eq_true', Bool.not_eq_false', Bool.not_eq_true, Bool.not_eq_false] at hc) <;> first | (first | (exact absurd rfl hc) | (exfalso; omega) | (exact absurd (hc.symm.trans (by assumption : _ = false)) (by decide)) | (exact absurd (hc.symm.trans (by assumption : _ = true)) (by decide))) | skip)) | refine loopK.x ?_)
    | (fail)
    | fail
  all_goals first | (exfalso; omega) | skip
  rw [hmv] at sv2
  refine loopK.nn (m - 1) (by omega) (by repeat (first | refine Ag.upd rfl ?_ | exact Ag.hv | refine Ag.hv2 (fun i hi => by simp at hi ⊢; omega) ?_)) ⟨_, ⟨i + 1, b2, K2, s2, y2, hO2, hP2, ?_, rfl, rfl, rfl, by omega, sv2, rfl⟩, fun w hw => H.sel (l := [_, _, _, _, _, _, _, _, _, _, _, _, _]) (M := L) hw [0, 1, 2, 3, 4, 5, 12]⟩
  show Value.int .i64 _ = _; congr 1
end Go.Proofs.Ytbhgahjeocnfcaa
namespace Go.Proofs.Ytbhgahjeocnfcaa
open Go Go.Cx Go.RowKit
set_option linter.unusedVariables false
set_option linter.unusedSimpArgs false
set_option maxHeartbeats 4000000
attribute [local irreducible] J JC thenK blockK loopK roundK drawK retK QW Qt pel List.set Calls
open Go.Maps Go.Lib
set_option maxRecDepth 8000
theorem nodup_two {α : Type} {l m : List α} (hl : l.Nodup) (hm : m.Nodup) (h : ∀ x, x ∈ l ↔ x ∈ m) : l.length = m.length :=
  Nat.le_antisymm (nodup_sub l m hl fun x hx => (h x).1 hx) (nodup_sub m l hm fun x hx => (h x).2 hx)
def wtF (o : List Int) (F : VF) (k : Nat) : Nat := lvC o.length k (tabF o.length (gF o F))
theorem wt_eq {F : VF} {o : List Int} {K : KS} {s : SS} {a : Nat} {hO hP : Heap} (sv : Stv F o K s a hO hP) {W : Int → Nat} (wt : WtOf s.ns o a W) {k : Nat} (hk : k < o.length) : W (o.getD k default) = wtF o F k := by
  obtain ⟨S, h1, h2, h3⟩ := wt
  have wf := sv.so.wf
  have ha := sv.sy.1
  have ht : tab o.length s.ns a = tabF o.length (gF o F) := by
    unfold tab blk tabF
    exact List.map_congr_left fun r _ => sv.sy.fn sv.ho.2 wf _
  unfold wtF
  rw [h3, ← ht, lvC_eq wf ha hk]
  unfold cntV
  refine nodup_two (h1.filter _) (foldN_nodup _ _ _ _ List.nodup_nil) fun x => ?_
  rw [List.mem_filter, foldN_mem, h2]
  simp only [List.not_mem_nil, false_or, decide_eq_true_eq]
  rw [lvl_iff wf ha hk]
  constructor
  · rintro ⟨⟨g1, g2⟩, g3⟩
    have hx := wf.pl x g1 (g2.lt wf ha)
    exact ⟨g2, g1, getD_inj sv.ho.2 hx hk g3⟩
  · rintro ⟨g1, g2, g3⟩
    exact ⟨⟨g2, g1⟩, by rw [g3]⟩
theorem srt_pw {cm : Int → Int → Int} {q : List Int} (h : SrtO cm q q.length) : q.Pairwise fun x y => cm x y < 0 := by
  rw [List.pairwise_iff_getElem]
  intro i j hi hj hij
  have := h i j hij hj
  rw [List.getD_eq_getElem?_getD, List.getD_eq_getElem?_getD, List.getElem?_eq_getElem hi, List.getElem?_eq_getElem hj] at this
  exact this
theorem pw_uniq {cm : Int → Int → Int} (asy : ∀ x y, cm x y < 0 → ¬ cm y x < 0) : ∀ (q r : List Int), q.Perm r → q.Pairwise (fun x y => cm x y < 0) → r.Pairwise (fun x y => cm x y < 0) → q = r
  | [], r, h, _, _ => (List.Perm.nil_eq h)
  | x :: q, [], h, _, _ => absurd h.length_eq (by simp)
  | x :: q, y :: r, h, h1, h2 => by
    rw [List.pairwise_cons] at h1 h2
    have e : x = y := by
      have hx := h.mem_iff.1 (List.mem_cons_self (a := x) (l := q))
      have hy := h.mem_iff.2 (List.mem_cons_self (a := y) (l := r))
      rcases List.mem_cons.1 hx with hx | hx
      · exact hx
      · rcases List.mem_cons.1 hy with hy | hy
        · exact hy.symm
        · exact absurd (h2.1 x hx) (asy _ _ (h1.1 y hy))
    subst e
    rw [pw_uniq asy q r (List.Perm.cons_inv h) h1.2 h2.2]
theorem cmS_as (W : Int → Nat) (x y : Int) (h : cmS W x y < 0) : ¬ cmS W y x < 0 := by
  unfold cmS at h ⊢
  split at h <;> split <;> omega
theorem queue_uniq {W : Int → Nat} {q r : List Int} (hp : q.Perm r) (hq : SrtO (cmS W) q q.length) (hr : r.Pairwise fun x y => cmS W x y < 0) : q = r := pw_uniq (cmS_as W) q r hp (srt_pw hq) hr
theorem kn_sort : sftO (thF (pairP 2 2)) [2, 3, 1, 4] [1, 2, 3, 4] = [1, 3, 4, 2] := by decide +kernel
theorem kn_one : sftO (fun _ => true) [1, 3] [3, 1] = [3, 1] := by decide +kernel
end Go.Proofs.Ytbhgahjeocnfcaa
namespace Go.Proofs.Ytbhgahjeocnfcaa
open Go Go.Cx Go.RowKit
set_option linter.unusedVariables false
set_option linter.unusedSimpArgs false
set_option maxHeartbeats 4000000
attribute [local irreducible] J JC thenK blockK loopK roundK drawK retK QW Qt pel List.set Calls
open Go.Maps Go.Lib
set_option maxRecDepth 8000
attribute [local irreducible] JE Br eK0 eK3 brK pc
theorem kn_q {K : KS} {s : SS} {a : Nat} {hO hP : Heap} (sv : Stv (thF (pairP 2 2)) (ints 4) K s a hO hP) {W : Int → Nat} {q : List Int} (wt : WtOf s.ns (ints 4) a W) (hp : q.Perm (ints 4)) (hq : SrtO (cmS W) q q.length) : sftO (thF (pairP 2 2)) q (ints 4) = [1, 3, 4, 2] := by
  have h0 : W 1 = 1 := (wt_eq sv wt (k := 0) (by decide)).trans (by decide +kernel)
  have h1 : W 2 = 2 := (wt_eq sv wt (k := 1) (by decide)).trans (by decide +kernel)
  have h2 : W 3 = 2 := (wt_eq sv wt (k := 2) (by decide)).trans (by decide +kernel)
  have h3 : W 4 = 1 := (wt_eq sv wt (k := 3) (by decide)).trans (by decide +kernel)
  have e : q = [2, 3, 1, 4] := queue_uniq (hp.trans (by decide)) hq (by simp [cmS, h0, h1, h2, h3])
  rw [e]
  exact kn_sort
theorem kn_o {K : KS} {s : SS} {a : Nat} {hO hP : Heap} (sv : Stv (fun _ => true) [3, 1] K s a hO hP) {W : Int → Nat} {q : List Int} (wt : WtOf s.ns [3, 1] a W) (hp : q.Perm [3, 1]) (hq : SrtO (cmS W) q q.length) : sftO (fun _ => true) q [3, 1] = [3, 1] := by
  have h0 : W 3 = 0 := (wt_eq sv wt (k := 0) (by decide)).trans (by decide +kernel)
  have h1 : W 1 = 0 := (wt_eq sv wt (k := 1) (by decide)).trans (by decide +kernel)
  have e : q = [1, 3] := queue_uniq (hp.trans (by decide)) hq (by simp [cmS, h0, h1])
  rw [e]
  exact kn_one
theorem two_ll (b1 b2 bL : Nat) : LLR (some ⟨bL, 0, none⟩) [⟨some ⟨b1, 0, none⟩, 1, [1]⟩, ⟨some ⟨b2, 0, none⟩, 1, [2]⟩] ([(bL, .cells ⟨[.slice (some ⟨b1, 0, none⟩) 1 1, .slice (some ⟨b2, 0, none⟩) 1 1]⟩ 28 (0, 0))] ++ ([(b2, .cells ⟨[.int .i64 2]⟩ 3 (0, 0))] ++ [(b1, .cells ⟨[.int .i64 1]⟩ 3 (0, 0))])) := by
  have s1 : SlT encI 1 (some ⟨b1, 0, none⟩) [1] [(b1, .cells ⟨[.int .i64 1]⟩ 3 (0, 0))] := slArg b1 [1] 3
  have s2 : SlT encI 1 (some ⟨b2, 0, none⟩) [2] [(b2, .cells ⟨[.int .i64 2]⟩ 3 (0, 0))] := slArg b2 [2] 3
  have sL : SlT encHV 1 (some ⟨bL, 0, none⟩) [⟨some ⟨b1, 0, none⟩, 1, [1]⟩, ⟨some ⟨b2, 0, none⟩, 1, [2]⟩] [(bL, .cells ⟨[.slice (some ⟨b1, 0, none⟩) 1 1, .slice (some ⟨b2, 0, none⟩) 1 1]⟩ 28 (0, 0))] :=
    OwT.sl (e := 28) (cap := 2) ⟨fun _ => rfl, .inr ⟨bL, _, rfl, rfl, rfl, Nat.le_refl _, rfl⟩⟩
  refine ⟨sL.sub fun x hx => by rw [List.mem_singleton.1 hx]; simp, fun v hv => ?_⟩
  rcases List.mem_cons.1 hv with rfl | hv
  · exact s1.sub fun x hx => by rw [List.mem_singleton.1 hx]; simp
  · rw [List.mem_singleton.1 hv]
    exact s2.sub fun x hx => by rw [List.mem_singleton.1 hx]; simp
set_option maxHeartbeats 16000000 in
theorem known31_any (w : World) : Calls Try.prog 12 #[] w fun e w' => e = .returned (.bool true) ∧ Below w.heap.size w w' := by
  have ok2 : okTh 4 (pairP 2 2) := okTh_iff.1 (by decide +kernel)
  have hz2 : szF [1, 3, 4, 2] (thF (pairP 2 2)) = 4 := by decide +kernel
  have hl4 : (ints 4).length = 4 := ints_len 4
  have hl2 : (ints 2).length = 2 := ints_len 2
  have hco : 2 + costT (pairP 2 2) ≤ 1048576 := by decide +kernel
  have ok3 : okTh 2 [[1], [2]] := okTh_iff.1 (by decide +kernel)
  have hco3 : 2 + costT [[1], [2]] ≤ 1048576 := by decide +kernel
  refine calls_of_JC (R := []) Try.func12 Try.ntmps12 rfl rfl (Holds.nil _) ?_
  repeat' first
    | (refine J.isJ ?_; first | (first | (refine J.fc 49 ?_; refine J.call1 ePairs rfl rfl (fun w hw => pairs_any 2 (by omega) w) ?_; rintro _ hT ⟨aT, cT, vs, rfl, hvs, ll⟩) | (refine J.fc 50 ?_; refine J.call1 eUpTo rfl rfl (fun w hw => upTo_any 4 (by omega) w) ?_; rintro _ hU ⟨aU, cU, rfl, oU⟩) | (refine J.fc 16 ?_; refine J.callx eCom rfl rfl (fun w hw => compile_V 4 (by omega) (ints 4) (List.Perm.refl _) aU cU hU oU.sl aT cT vs hT ll (pairP 2 2) hvs ok2 hco RdH.hd RdH.hd.tl hw) ?_; rintro _ _ ⟨b1, K1, s1, y1, hO1, hP1, rfl, rfl, sv1⟩) | (refine J.fc 51 ?_; refine J.callx eSift rfl rfl (fun w hw => Sift_any sv1 (by omega) (stR_hd _) hw) ?_; rintro _ _ ⟨W, q, wt, hqp, hqs, b2, K2, s2, y2, hO2, hP2, rfl, rfl, sv2⟩; have hkq := kn_q sv1 wt hqp hqs; rw [hkq] at sv2) | (refine J.fc 20 ?_; (refine J.callx eSize rfl rfl (fun w hw => Size_any sv2.so b2 y2 sv2.sy.1 (stR_b (stR_hd _)) (stR_N (stR_hd _)) hw) ?_; rintro _ _ ⟨l2, rfl, rfl, bel2⟩; have hs2 := (sv2.size bel2).trans hz2)) | (refine J.o 11 ?_; first | refine J.neF hΓ hs2 ?_ | refine J.ev' hΓ ?_) | (refine J.fc 19 ?_; refine J.call1 eOrder rfl rfl (fun w hw => Order_any sv2.so sv2.po b2 w (stR_of2 (stR_hd _) hw)) ?_; rintro _ ho ⟨ao, co, rfl, oo⟩) | (refine J.o 9 ?_; refine J.bl hΓ (fun _ => ?_)) | (refine J.fc 18 ?_; refine J.call0 eSame3 rfl rfl (fun w hw => same3_any [1, 3, 4, 2] [1, 3, 4, 2] ao (some ⟨_, 0, none⟩) co 4 (ho ++ [(_, .cells ⟨[.int .i64 1, .int .i64 3, .int .i64 4, .int .i64 2]⟩ 3 (0, 0))]) (oo.sl.sub fun x hx => List.mem_append_left _ hx) ((slArg _ [1, 3, 4, 2] 3).sub fun x hx => List.mem_append_right _ hx) (by decide) (by decide) w ((hw.rdH RdH.hd.tl).append (hw.rdH RdH.hd))) ?_; rw [decide_eq_true rfl])) | (first | (refine J.o 0 ?_; refine J.ev' hΓ ?_) | refine J.nil ?_ | (refine J.o 3 ?_; first | refine J.ev' hΓ ?_) | (refine J.o 8 ?_; refine J.bd hΓ ?_) | (refine J.o 9 ?_; refine J.bl hΓ (fun _ => ?_)) | (refine J.o 10 ?_; refine J.ev' hΓ ?_) | (refine J.o 11 ?_; refine J.ev' hΓ ?_)))
    | (first | refine JC.seq ?_ | refine JC.region ?_ | refine JC.ret ?_ | refine JC.skip ?_ | refine thenK.nn ?_ | refine JC.condF rfl ?_)
    | fail
  all_goals first | (exfalso; omega) | skip
  rename_i bS b54 b55 b56
  have ll3 := two_ll b54 b55 b56
  have e4 : swp (ints 2) 0 = [2, 1] := by decide +kernel
  have hO31 : okOrd [3, 1] := by unfold okOrd; decide
  repeat' first
    | (refine J.isJ ?_; first | (first | (refine J.fc 50 ?_; refine J.call1 eUpTo rfl rfl (fun w hw => upTo_any 2 (by omega) w) ?_; rintro _ hU3 ⟨aU3, cU3, rfl, oU3⟩) | (refine J.fc 16 ?_; refine J.callx eCom rfl rfl (fun w hw => compile_V 2 (by omega) (ints 2) (List.Perm.refl _) aU3 cU3 hU3 oU3.sl (some ⟨b56, 0, none⟩) 2 _ _ ll3 [[1], [2]] rfl ok3 hco3 RdH.hd (RdH.hd.tl.append (RdH.hd.tl.tl.append RdH.hd.tl.tl.tl)) hw) ?_; rintro _ _ ⟨b3, K3, s3, y3, hO3, hP3, rfl, rfl, sv3⟩) | (refine J.fc 17 ?_; first | (refine J.callx eSwap rfl rfl (fun w hw => Swap_any sv3 (by omega) 0 (by omega) (stR_hd _) hw) ?_; rintro _ _ ⟨b4, K4, s4, y4, hO4, hP4, rfl, rfl, sv4⟩; rw [e4] at sv4) | (refine J.callx eSwap rfl rfl (fun w hw => Swap_out sv3 1 (.inr (by rw [hl2]; decide)) (stR_tl (stR_hd _) K4 b4 s4 hO4 hP4) hw) ?_; rintro _ _ ⟨rfl, rfl⟩) | (refine J.callx eSwap rfl rfl (fun w hw => Swap_out sv3 (-1) (.inl (by decide)) (stR_tl (stR_hd _) K4 b4 s4 hO4 hP4) hw) ?_; rintro _ _ ⟨rfl, rfl⟩)) | (refine J.fc 19 ?_; refine J.call1 eOrder rfl rfl (fun w hw => Order_any sv4.so sv4.po b4 w (stR_of2 (stR_hd _) hw)) ?_; rintro _ ho4 ⟨ao4, co4, rfl, oo4⟩) | (refine J.o 9 ?_; refine J.bl hΓ (fun _ => ?_)) | (refine J.fc 18 ?_; refine J.call0 eSame3 rfl rfl (fun w hw => same3_any [2, 1] [2, 1] ao4 (some ⟨_, 0, none⟩) co4 2 (ho4 ++ [(_, .cells ⟨[.int .i64 2, .int .i64 1]⟩ 3 (0, 0))]) (oo4.sl.sub fun x hx => List.mem_append_left _ hx) ((slArg _ [2, 1] 3).sub fun x hx => List.mem_append_right _ hx) (by decide) (by decide) w ((hw.rdH RdH.hd.tl).append (hw.rdH RdH.hd))) ?_; rw [decide_eq_true rfl])) | (first | (refine J.o 0 ?_; refine J.ev' hΓ ?_) | refine J.nil ?_ | (refine J.o 3 ?_; first | refine J.ev' hΓ ?_) | (refine J.o 8 ?_; refine J.bd hΓ ?_) | (refine J.o 9 ?_; refine J.bl hΓ (fun _ => ?_)) | (refine J.o 10 ?_; refine J.ev' hΓ ?_) | (refine J.o 11 ?_; refine J.ev' hΓ ?_)))
    | (first | refine JC.seq ?_ | refine JC.region ?_ | refine JC.ret ?_ | refine JC.skip ?_ | refine thenK.nn ?_ | refine JC.condF rfl ?_)
    | (fail)
    | fail
  all_goals first | (exfalso; omega) | skip
  rename_i bR bN
  repeat' first
    | (refine J.isJ ?_; first | (first | (refine J.fc 25 ?_; refine J.callx eNew rfl rfl (fun w hw => new_any [3, 1] (some ⟨bN, 0, none⟩) 2 [(bN, .cells ⟨[.int .i64 3, .int .i64 1]⟩ 3 (0, 0))] (slArg bN [3, 1] 3) hO31 RdH.hd hw) ?_; rintro _ _ ⟨b5, K5, s5, hO5, hP5, rfl, rfl, so5, hns5, po5⟩; have sv5 : Stv (fun _ => true) [3, 1] K5 s5 1 hO5 hP5 := ⟨so5, po5, ⟨so5.wf.two, fun β => fn_1 so5.wf _⟩⟩) | (refine J.fc 51 ?_; refine J.callx eSift rfl rfl (fun w hw => Sift_any sv5 (by decide) (stR_hd _) hw) ?_; rintro _ _ ⟨W5, q5, wt5, hqp5, hqs5, b6, K6, s6, y6, hO6, hP6, rfl, rfl, sv6⟩; have hk5 := kn_o sv5 wt5 hqp5 hqs5; rw [hk5] at sv6; obtain rfl : y6 = 1 := sv6.sy.eq hO31.2 sv6.so.wf ⟨sv6.so.wf.two, fun β => fn_1 sv6.so.wf _⟩) | (refine J.fc 19 ?_; refine J.call1 eOrder rfl rfl (fun w hw => Order_any sv6.so sv6.po b6 w (stR_of2 (stR_hd _) hw)) ?_; rintro _ ho6 ⟨ao6, co6, rfl, oo6⟩) | (refine J.o 9 ?_; refine J.bl hΓ (fun _ => ?_)) | (refine J.fc 18 ?_; refine J.call0 eSame3 rfl rfl (fun w hw => same3_any [3, 1] [3, 1] ao6 (some ⟨_, 0, none⟩) co6 2 (ho6 ++ [(_, .cells ⟨[.int .i64 3, .int .i64 1]⟩ 3 (0, 0))]) (oo6.sl.sub fun x hx => List.mem_append_left _ hx) ((slArg _ [3, 1] 3).sub fun x hx => List.mem_append_right _ hx) (by decide) (by decide) w ((hw.rdH RdH.hd.tl).append (hw.rdH RdH.hd))) ?_; rw [decide_eq_true rfl]) | (refine J.fc 14 ?_; refine J.call0 eWorks31 rfl rfl (fun w hw => works31_any w) ?_)) | (first | (refine J.o 0 ?_; refine J.ev' hΓ ?_) | refine J.nil ?_ | (refine J.o 3 ?_; first | refine J.ev' hΓ ?_) | (refine J.o 8 ?_; refine J.bd hΓ ?_) | (refine J.o 9 ?_; refine J.bl hΓ (fun _ => ?_)) | (refine J.o 10 ?_; refine J.ev' hΓ ?_) | (refine J.o 11 ?_; refine J.ev' hΓ ?_)))
    | (first | refine JC.seq ?_ | refine JC.region ?_ | refine JC.ret ?_ | refine JC.skip ?_ | refine thenK.nn ?_ | refine JC.condF rfl ?_)
    | fail
  all_goals first | (exfalso; omega) | skip
  all_goals (refine ret1f rfl rfl rfl (fun w1 hw => ⟨rfl, hw.below⟩))
end Go.Proofs.Ytbhgahjeocnfcaa
