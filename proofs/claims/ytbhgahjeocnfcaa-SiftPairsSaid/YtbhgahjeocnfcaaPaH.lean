/- SiftPairs: part 8. -/
import Derived.Test.YtbhgahjeocnfcaaPaG
namespace Go.Proofs.Ytbhgahjeocnfcaa
open Go Go.Cx Go.RowKit
set_option linter.unusedVariables false
set_option linter.unusedSimpArgs false
set_option maxHeartbeats 4000000
attribute [local irreducible] J JC thenK blockK loopK roundK drawK retK QW Qt pel List.set Calls
open Go.Maps Go.Lib
set_option maxRecDepth 8000
attribute [local irreducible] JE Br eK0 eK3 brK pc
theorem eInsC : Entr Try.prog 154 := Entr.of Try.func154 rfl rfl
theorem ePdqC : Entr Try.prog 141 := Entr.of Try.func141 rfl rfl
theorem eSortF : Entr Try.prog 109 := Entr.of Try.func109 rfl rfl
theorem eBLen : Entr Try.prog 142 := Entr.of Try.func142 rfl rfl
structure CmpOk (fc : FuncId) (lb : List Value) (cm : Int → Int → Int) (l : List Int) (hM : Heap) : Prop where
  en : Entr Try.prog fc
  gv : ∀ x ∈ l, ∀ y ∈ l, ∀ w, Holds hM w → Calls Try.prog fc ⟨[.int .i64 x, .int .i64 y] ++ lb⟩ w fun e w' => e = .returned (.int .i64 (cm x y)) ∧ Below w.heap.size w w'
  tot : ∀ x ∈ l, ∀ y ∈ l, x ≠ y → ¬ cm x y < 0 → cm y x < 0
  tr : ∀ x ∈ l, ∀ y ∈ l, ∀ z ∈ l, cm x y < 0 → cm y z < 0 → cm x z < 0
def SrtI (cm : Int → Int → Int) (d : List Int) (i j : Nat) : Prop := ∀ p q, p < q → q ≤ i → q ≠ j → cm (d.getD p default) (d.getD q default) < 0
def SrtO (cm : Int → Int → Int) (d : List Int) (i : Nat) : Prop := ∀ p q, p < q → q < i → cm (d.getD p default) (d.getD q default) < 0
theorem getD_mem {d : List Int} {k : Nat} (h : k < d.length) : d.getD k default ∈ d := by
  rw [List.getD_eq_getElem?_getD, List.getElem?_eq_getElem h]
  exact List.getElem_mem h
theorem SrtI.step {cm : Int → Int → Int} {d : List Int} {i j : Nat} (h : SrtI cm d i (j + 1)) (hi : i < d.length) (hj : j + 1 ≤ i) (hc : cm (d.getD (j + 1) default) (d.getD j default) < 0) : SrtI cm (swp d j) i j := fun p q hpq hq hne => by
  have hd : j + 1 < d.length := by omega
  rw [swp_get d hd, swp_get d hd]
  by_cases h1 : q = j + 1
  · subst h1
    rw [if_neg (by omega : ¬ j + 1 = j), if_pos rfl]
    by_cases h2 : p = j
    · rw [if_pos h2]; exact hc
    · rw [if_neg h2, if_neg (by omega)]
      exact h p j (by omega) (by omega) (by omega)
  · rw [if_neg hne, if_neg h1]
    by_cases h2 : p = j
    · rw [if_pos h2]; exact h (j + 1) q (by omega) hq h1
    · rw [if_neg h2]
      by_cases h3 : p = j + 1
      · rw [if_pos h3]; exact h j q (by omega) hq h1
      · rw [if_neg h3]; exact h p q hpq hq h1
theorem SrtI.done {cm : Int → Int → Int} {l d : List Int} {i j : Nat} {fc : FuncId} {lb : List Value} {hM : Heap} (cok : CmpOk fc lb cm l hM) (hp : d.Perm l) (hn : l.Nodup) (h : SrtI cm d i j) (hi : i < d.length) (hj : j ≤ i) (hc : j = 0 ∨ ¬ cm (d.getD j default) (d.getD (j - 1) default) < 0) : SrtO cm d (i + 1) := fun p q hpq hq => by
  have hm : ∀ k, k < d.length → d.getD k default ∈ l := fun k hk => hp.mem_iff.1 (getD_mem hk)
  by_cases h1 : q = j
  · subst h1
    rcases hc with h0 | hc
    · omega
    · have hne : d.getD q default ≠ d.getD (q - 1) default := fun e => by
        have := getD_inj (hp.nodup_iff.2 hn) (by omega) (by omega) e
        omega
      have h2 := cok.tot _ (hm q (by omega)) _ (hm (q - 1) (by omega)) hne hc
      by_cases h3 : p = q - 1
      · rw [h3]; exact h2
      · exact cok.tr _ (hm p (by omega)) _ (hm (q - 1) (by omega)) _ (hm q (by omega)) (h p (q - 1) (by omega) (by omega) (by omega)) h2
  · exact h p q hpq (by omega) h1
theorem insC_any {fc : FuncId} {lb : List Value} {cm : Int → Int → Int} {l : List Int} {hM : Heap} (cok : CmpOk fc lb cm l hM) (hn : l.Nodup) (hl : l.length ≤ 12) {a : Option Addr} {c : Nat} {hQ : Heap} (oQ : OwT encI 1 3 a c l hQ) {w0 w : World} {R : Heap} {L : List Heap} (rM : RdH R L hM) (hw : H w0 R (hQ :: L) w) :
    Calls Try.prog 154 #[.slice a l.length c, .int .i64 0, .int .i64 (l.length : Int), .func (.func fc) ⟨[]⟩ ⟨lb⟩] w fun e w' => ∃ v L', e = .returned v ∧ H w0 R L' w' ∧ ∃ d hD, v = .tuple #[] ∧ L' = hD :: L ∧ d.Perm l ∧ SrtO cm d d.length ∧ OwT encI 1 3 a c d hD := by
  refine calls_in Try.func154 Try.ntmps154 rfl rfl (hw) ?_
  repeat' first
    | (refine J.isJ ?_; first | (fail) | (first | (refine J.o 0 ?_; refine J.ev' hΓ ?_) | refine J.nil ?_ | refine J.kd ?_ | (refine J.o 4 ?_; first | refine J.lT default hΓ ?_) | (refine J.o 3 ?_; first | refine J.iJ hΓ ?_ | refine J.ev' hΓ ?_) | (refine J.o 1 ?_; first | refine J.ad ?_ | refine J.sb ?_) | (refine J.o 5 ?_; first | refine J.tT _ default hΓ (fun _ _ => ?_)) | (refine J.o 10 ?_; refine J.ev' hΓ ?_) | (refine J.o 11 ?_; refine J.ev' hΓ ?_)) | ((fail_if_success refine J.wt ?_); refine J.gc rfl rfl (fun hc => ?_) (fun hc => ?_) <;> ((try simp only [decide_eq_true_eq, decide_eq_false_iff_not, beq_iff_eq, beq_eq_false_iff_ne, bne_iff_ne, bne_eq_false_iff_eq, Bool.not_eq_true', Bool.not_eq_false', Bool.not_eq_true, Bool.not_eq_false] at hc) <;> first | (first | (exact absurd rfl hc) | (exfalso; omega) | (exact absurd (hc.symm.trans (by assumption : _ = false)) (by decide)) | (exact absurd (hc.symm.trans (by assumption : _ = true)) (by decide))) | skip)))
    | (first | refine JC.seq ?_ | refine JC.region ?_ | refine JC.block ?_ | refine JC.exit ?_ | refine JC.skip ?_ | refine thenK.nn ?_ | refine thenK.x ?_ | refine blockK.nn ?_ | refine blockK.hit rfl ?_ | refine JC.condF rfl ?_ | (refine JC.cond rfl (fun hc => ?_) (fun hc => ?_) <;> ((try simp only [decide_eq_true_eq, decide_eq_false_iff_not, beq_iff_eq, beq_eq_false_iff_ne, bne_iff_ne, bne_eq_false_iff_eq, Bool.not_eq_true', Bool.not_eq_false', Bool.not_eq_true, Bool.not_eq_false] at hc) <;> first | (first | (exact absurd rfl hc) | (exfalso; omega) | (exact absurd (hc.symm.trans (by assumption : _ = false)) (by decide)) | (exact absurd (hc.symm.trans (by assumption : _ = true)) (by decide))) | skip)) | refine drawK.nn ?_ | refine loopK.x ?_)
    | (fail)
    | fail
  all_goals first | (exfalso; omega) | skip
  refine JC.loop (fun i => i == 8 || i == 9 || Nat.ble 12 i) (fun k g L' => ∃ (i : Nat) (d : List Int) (hD : Heap), g 8 = .int .i64 (i : Int) ∧ i + k = l.length + 1 ∧ 1 ≤ i ∧ L' = hD :: L ∧ d.Perm l ∧ SrtO cm d i ∧ OwT encI 1 3 a c d hD) l.length ⟨1, l, hQ, rfl, by omega, Nat.le_refl _, rfl, .refl _, fun p q h1 h2 => by omega, oQ⟩ ?_
  rintro k g _ ⟨i, d, hD, e8, hik, hi1, rfl, hp, hs, oD⟩
  have hdl : d.length = l.length := hp.length_eq
  refine JC.pin 8 e8 ?_
  rcases Nat.lt_or_ge i l.length with hil | hil
  case inr =>
    repeat' first
      | (refine J.isJ ?_; first | (fail) | (first | (refine J.o 0 ?_; refine J.ev' hΓ ?_) | refine J.nil ?_ | refine J.kd ?_ | (refine J.o 4 ?_; first | refine J.lT default hΓ ?_) | (refine J.o 3 ?_; first | refine J.iJ hΓ ?_ | refine J.ev' hΓ ?_) | (refine J.o 1 ?_; first | refine J.ad ?_ | refine J.sb ?_) | (refine J.o 5 ?_; first | refine J.tT _ default hΓ (fun _ _ => ?_)) | (refine J.o 10 ?_; refine J.ev' hΓ ?_) | (refine J.o 11 ?_; refine J.ev' hΓ ?_)) | ((fail_if_success refine J.wt ?_); refine J.gc rfl rfl (fun hc => ?_) (fun hc => ?_) <;> ((try simp only [decide_eq_true_eq, decide_eq_false_iff_not, beq_iff_eq, beq_eq_false_iff_ne, bne_iff_ne, bne_eq_false_iff_eq, Bool.not_eq_true', Bool.not_eq_false', Bool.not_eq_true, Bool.not_eq_false] at hc) <;> first | (first | (exact absurd rfl hc) | (exfalso; omega) | (exact absurd (hc.symm.trans (by assumption : _ = false)) (by decide)) | (exact absurd (hc.symm.trans (by assumption : _ = true)) (by decide))) | skip)))
      | (first | refine JC.seq ?_ | refine JC.region ?_ | refine JC.block ?_ | refine JC.exit ?_ | refine JC.skip ?_ | refine thenK.nn ?_ | refine thenK.x ?_ | refine blockK.nn ?_ | refine blockK.hit rfl ?_ | refine JC.condF rfl ?_ | (refine JC.cond rfl (fun hc => ?_) (fun hc => ?_) <;> ((try simp only [decide_eq_true_eq, decide_eq_false_iff_not, beq_iff_eq, beq_eq_false_iff_ne, bne_iff_ne, bne_eq_false_iff_eq, Bool.not_eq_true', Bool.not_eq_false', Bool.not_eq_true, Bool.not_eq_false] at hc) <;> first | (first | (exact absurd rfl hc) | (exfalso; omega) | (exact absurd (hc.symm.trans (by assumption : _ = false)) (by decide)) | (exact absurd (hc.symm.trans (by assumption : _ = true)) (by decide))) | skip)) | refine drawK.nn ?_ | refine loopK.x ?_)
      | (fail)
      | fail
    all_goals first | (exfalso; omega) | skip
    refine ret0n rfl (fun w hw => ⟨_, _, rfl, hw, d, hD, rfl, rfl, hp, ?_, oD⟩)
    exact fun p q h1 h2 => hs p q h1 (by omega)
  repeat' first
    | (refine J.isJ ?_; first | (fail) | (first | (refine J.o 0 ?_; refine J.ev' hΓ ?_) | refine J.nil ?_ | refine J.kd ?_ | (refine J.o 4 ?_; first | refine J.lT default hΓ ?_) | (refine J.o 3 ?_; first | refine J.iJ hΓ ?_ | refine J.ev' hΓ ?_) | (refine J.o 1 ?_; first | refine J.ad ?_ | refine J.sb ?_) | (refine J.o 5 ?_; first | refine J.tT _ default hΓ (fun _ _ => ?_)) | (refine J.o 10 ?_; refine J.ev' hΓ ?_) | (refine J.o 11 ?_; refine J.ev' hΓ ?_)) | ((fail_if_success refine J.wt ?_); refine J.gc rfl rfl (fun hc => ?_) (fun hc => ?_) <;> ((try simp only [decide_eq_true_eq, decide_eq_false_iff_not, beq_iff_eq, beq_eq_false_iff_ne, bne_iff_ne, bne_eq_false_iff_eq, Bool.not_eq_true', Bool.not_eq_false', Bool.not_eq_true, Bool.not_eq_false] at hc) <;> first | (first | (exact absurd rfl hc) | (exfalso; omega) | (exact absurd (hc.symm.trans (by assumption : _ = false)) (by decide)) | (exact absurd (hc.symm.trans (by assumption : _ = true)) (by decide))) | skip)))
    | (first | refine JC.seq ?_ | refine JC.region ?_ | refine JC.block ?_ | refine JC.exit ?_ | refine JC.skip ?_ | refine thenK.nn ?_ | refine thenK.x ?_ | refine blockK.nn ?_ | refine blockK.hit rfl ?_ | refine JC.condF rfl ?_ | (refine JC.cond rfl (fun hc => ?_) (fun hc => ?_) <;> ((try simp only [decide_eq_true_eq, decide_eq_false_iff_not, beq_iff_eq, beq_eq_false_iff_ne, bne_iff_ne, bne_eq_false_iff_eq, Bool.not_eq_true', Bool.not_eq_false', Bool.not_eq_true, Bool.not_eq_false] at hc) <;> first | (first | (exact absurd rfl hc) | (exfalso; omega) | (exact absurd (hc.symm.trans (by assumption : _ = false)) (by decide)) | (exact absurd (hc.symm.trans (by assumption : _ = true)) (by decide))) | skip)) | refine drawK.nn ?_ | refine loopK.x ?_)
    | (fail)
    | fail
  all_goals first | (exfalso; omega) | skip
  refine JC.loop (fun i => i == 9 || Nat.ble 18 i) (fun k2 g L' => ∃ (j : Nat) (d : List Int) (hD : Heap), g 9 = .int .i64 (j : Int) ∧ j = k2 ∧ j ≤ i ∧ L' = hD :: L ∧ d.Perm l ∧ SrtI cm d i j ∧ OwT encI 1 3 a c d hD) i ⟨i, d, hD, rfl, rfl, Nat.le_refl _, rfl, hp, fun p q h1 h2 h3 => hs p q h1 (by omega), oD⟩ ?_
  clear oD hs hp hdl hD d
  rintro k2 g2 _ ⟨j, d, hD, e9, rfl, hji, rfl, hp, hs, oD⟩
  have hdl : d.length = l.length := hp.length_eq
  have hm : ∀ k, k < l.length → d.getD k default ∈ l := fun k hk => hp.mem_iff.1 (getD_mem (by omega))
  refine JC.pin 9 e9 ?_
  rcases Nat.eq_zero_or_pos j with hj0 | hj0
  case inl =>
    subst hj0
    have hs1 := hs.done cok hp hn (by omega) (by omega) (.inl rfl)
    repeat' first
      | (refine J.isJ ?_; first | (fail) | (first | (refine J.o 0 ?_; refine J.ev' hΓ ?_) | refine J.nil ?_ | refine J.kd ?_ | (refine J.o 4 ?_; first | refine J.lT default hΓ ?_) | (refine J.o 3 ?_; first | refine J.iJ hΓ ?_ | refine J.ev' hΓ ?_) | (refine J.o 1 ?_; first | refine J.ad ?_ | refine J.sb ?_) | (refine J.o 5 ?_; first | refine J.tT _ default hΓ (fun _ _ => ?_)) | (refine J.o 10 ?_; refine J.ev' hΓ ?_) | (refine J.o 11 ?_; refine J.ev' hΓ ?_)) | ((fail_if_success refine J.wt ?_); refine J.gc rfl rfl (fun hc => ?_) (fun hc => ?_) <;> ((try simp only [decide_eq_true_eq, decide_eq_false_iff_not, beq_iff_eq, beq_eq_false_iff_ne, bne_iff_ne, bne_eq_false_iff_eq, Bool.not_eq_true', Bool.not_eq_false', Bool.not_eq_true, Bool.not_eq_false] at hc) <;> first | (first | (exact absurd rfl hc) | (exfalso; omega) | (exact absurd (hc.symm.trans (by assumption : _ = false)) (by decide)) | (exact absurd (hc.symm.trans (by assumption : _ = true)) (by decide))) | skip)))
      | (first | refine JC.seq ?_ | refine JC.region ?_ | refine JC.block ?_ | refine JC.exit ?_ | refine JC.skip ?_ | refine thenK.nn ?_ | refine thenK.x ?_ | refine blockK.nn ?_ | refine blockK.hit rfl ?_ | refine JC.condF rfl ?_ | (refine JC.cond rfl (fun hc => ?_) (fun hc => ?_) <;> ((try simp only [decide_eq_true_eq, decide_eq_false_iff_not, beq_iff_eq, beq_eq_false_iff_ne, bne_iff_ne, bne_eq_false_iff_eq, Bool.not_eq_true', Bool.not_eq_false', Bool.not_eq_true, Bool.not_eq_false] at hc) <;> first | (first | (exact absurd rfl hc) | (exfalso; omega) | (exact absurd (hc.symm.trans (by assumption : _ = false)) (by decide)) | (exact absurd (hc.symm.trans (by assumption : _ = true)) (by decide))) | skip)) | refine drawK.nn ?_ | refine loopK.x ?_)
      | ((refine JC.drawA [] (by decide +kernel) (by decide +kernel) ?_))
      | fail
    all_goals first | (exfalso; omega) | skip
    refine loopK.nn (k - 1) (by omega) (by repeat (first | refine Ag.upd rfl ?_ | exact Ag.hv | refine Ag.hv2 (fun i hi => by simp at hi ⊢; omega) ?_)) ⟨i + 1, d, hD, ?_, by omega, by omega, rfl, hp, hs1, oD⟩
    show Value.int .i64 _ = _; congr 1
  obtain ⟨j, rfl⟩ : ∃ m, j = m + 1 := ⟨j - 1, by omega⟩
  have hq : (((j + 1 : Nat) : Int) - 1).toNat = j := by omega
  have hj1 : j + 1 < d.length := by omega
  repeat' first
    | (refine J.isJ ?_; first | (first | (refine J.o 3 ?_; refine J.iJ hΓ ?_ (hs := oD.sl)) | (refine J.o 4 ?_; refine J.lT default hΓ ?_ (hs := oD.sl) (hr := RdH.hd)) | (refine J.o 9 ?_; refine J.callv0 cok.en rfl rfl rfl (fun w hw => cok.gv _ (hm _ (by omega)) _ (hm _ (by omega)) w (hw.rdH rM.tl)) ?_) | (refine J.o 5 ?_; first | refine J.tT (enc := encI) (d.getD j default) default hΓ (fun h5 o5 => ?_) (ho := oD))) | (first | (refine J.o 0 ?_; refine J.ev' hΓ ?_) | refine J.nil ?_ | refine J.kd ?_ | (refine J.o 4 ?_; first | refine J.lT default hΓ ?_) | (refine J.o 3 ?_; first | refine J.iJ hΓ ?_ | refine J.ev' hΓ ?_) | (refine J.o 1 ?_; first | refine J.ad ?_ | refine J.sb ?_) | (refine J.o 5 ?_; first | refine J.tT _ default hΓ (fun _ _ => ?_)) | (refine J.o 10 ?_; refine J.ev' hΓ ?_) | (refine J.o 11 ?_; refine J.ev' hΓ ?_)) | ((fail_if_success refine J.wt ?_); refine J.gc rfl rfl (fun hc => ?_) (fun hc => ?_) <;> ((try simp only [decide_eq_true_eq, decide_eq_false_iff_not, beq_iff_eq, beq_eq_false_iff_ne, bne_iff_ne, bne_eq_false_iff_eq, Bool.not_eq_true', Bool.not_eq_false', Bool.not_eq_true, Bool.not_eq_false] at hc) <;> first | (first | (exact absurd rfl hc) | (exfalso; omega) | (exact absurd (hc.symm.trans (by assumption : _ = false)) (by decide)) | (exact absurd (hc.symm.trans (by assumption : _ = true)) (by decide))) | skip)))
    | (first | refine JC.seq ?_ | refine JC.region ?_ | refine JC.block ?_ | refine JC.exit ?_ | refine JC.skip ?_ | refine thenK.nn ?_ | refine thenK.x ?_ | refine blockK.nn ?_ | refine blockK.hit rfl ?_ | refine JC.condF rfl ?_ | (refine JC.cond rfl (fun hc => ?_) (fun hc => ?_) <;> ((try simp only [decide_eq_true_eq, decide_eq_false_iff_not, beq_iff_eq, beq_eq_false_iff_ne, bne_iff_ne, bne_eq_false_iff_eq, Bool.not_eq_true', Bool.not_eq_false', Bool.not_eq_true, Bool.not_eq_false] at hc) <;> first | (first | (exact absurd rfl hc) | (exfalso; omega) | (exact absurd (hc.symm.trans (by assumption : _ = false)) (by decide)) | (exact absurd (hc.symm.trans (by assumption : _ = true)) (by decide))) | skip)) | refine drawK.nn ?_ | refine loopK.x ?_)
    | (first | (refine JC.drawO [(0,0),(0,1),(0,2),(0,3),(0,4),(0,5),(0,6),(0,7),(0,8),(1,9),(0,10),(0,11),(0,12),(1,13),(0,14),(2,15),(0,16),(2,17)] (by decide +kernel) (by decide +kernel) ?_) | (refine JC.drawA [] (by decide +kernel) (by decide +kernel) ?_))
    | fail
  all_goals first | (exfalso; omega) | skip
  · rename_i _ h5 o5 h6 o6
    rw [hq] at hc o6
    have o7 : OwT encI 1 3 a c (swp d j) h6 := by
      unfold swp
      rw [List.set_comm _ _ (by omega)]
      exact o6
    refine loopK.nn j (by omega) (by repeat (first | refine Ag.upd rfl ?_ | exact Ag.hv | refine Ag.hv2 (fun i hi => by simp at hi ⊢; omega) ?_)) ⟨j, swp d j, h6, ?_, rfl, by omega, rfl, (swp_perm d hj1).trans hp, hs.step (by omega) hji hc, o7⟩
    show Value.int .i64 _ = _; congr 1; omega
  · rw [hq] at hc
    have hs1 := hs.done cok hp hn (by omega) hji (.inr hc)
    refine loopK.nn (k - 1) (by omega) (by repeat (first | refine Ag.upd rfl ?_ | exact Ag.hv | refine Ag.hv2 (fun i hi => by simp at hi ⊢; omega) ?_)) ⟨i + 1, d, hD, ?_, by omega, by omega, rfl, hp, hs1, oD⟩
    show Value.int .i64 _ = _; congr 1
theorem pdqC_any {fc : FuncId} {lb : List Value} {cm : Int → Int → Int} {l : List Int} {hM : Heap} (cok : CmpOk fc lb cm l hM) (hn : l.Nodup) (hl : l.length ≤ 12) {a : Option Addr} {c : Nat} {hQ : Heap} (oQ : OwT encI 1 3 a c l hQ) (x : Int) {w0 w : World} {R : Heap} {L : List Heap} (rM : RdH R L hM) (hw : H w0 R (hQ :: L) w) :
    Calls Try.prog 141 #[.slice a l.length c, .int .i64 0, .int .i64 (l.length : Int), .int .i64 x, .func (.func fc) ⟨[]⟩ ⟨lb⟩] w fun e w' => ∃ v L', e = .returned v ∧ H w0 R L' w' ∧ ∃ d hD, v = .tuple #[] ∧ L' = hD :: L ∧ d.Perm l ∧ SrtO cm d d.length ∧ OwT encI 1 3 a c d hD := by
  refine calls_in Try.func141 Try.ntmps141 rfl rfl (hw) ?_
  repeat' first
    | (refine J.isJ ?_; first | ((refine J.fc 154 ?_; refine J.callx eInsC rfl rfl (fun w hw => insC_any cok hn hl oQ rM hw) ?_; rintro _ _ ⟨d, hD, rfl, rfl, h1, h2, h3⟩)) | (first | (refine J.o 0 ?_; refine J.ev' hΓ ?_) | refine J.nil ?_ | (refine J.o 3 ?_; first | refine J.ev' hΓ ?_) | (refine J.o 1 ?_; first | refine J.sb ?_) | (refine J.o 10 ?_; refine J.ev' hΓ ?_) | (refine J.o 11 ?_; refine J.ev' hΓ ?_)))
    | (first | refine JC.seq ?_ | refine JC.region ?_ | refine JC.block ?_ | refine JC.ret ?_ | refine thenK.nn ?_ | refine thenK.r ?_ | refine blockK.r ?_ | (refine JC.cond rfl (fun hc => ?_) (fun hc => ?_) <;> ((try simp only [decide_eq_true_eq, decide_eq_false_iff_not, beq_iff_eq, beq_eq_false_iff_ne, bne_iff_ne, bne_eq_false_iff_eq, Bool.not_eq_true', Bool.not_eq_false', Bool.not_eq_true, Bool.not_eq_false] at hc) <;> first | (first | (exact absurd rfl hc) | (exfalso; omega) | (exact absurd (hc.symm.trans (by assumption : _ = false)) (by decide)) | (exact absurd (hc.symm.trans (by assumption : _ = true)) (by decide))) | skip)) | refine roundK.r ?_)
    | ((refine JC.rounds 0 ?_))
    | fail
  all_goals first | (exfalso; omega) | skip
  all_goals first | exact ret0 rfl (fun w hw => ⟨_, _, rfl, hw, d, hD, rfl, rfl, h1, h2, h3⟩) | exact ret0n rfl (fun w hw => ⟨_, _, rfl, hw, d, hD, rfl, rfl, h1, h2, h3⟩)
theorem sortF_any {fc : FuncId} {lb : List Value} {cm : Int → Int → Int} {l : List Int} {hM : Heap} (cok : CmpOk fc lb cm l hM) (hn : l.Nodup) (hl : l.length ≤ 12) {a : Option Addr} {c : Nat} {hQ : Heap} (oQ : OwT encI 1 3 a c l hQ) {w0 w : World} {R : Heap} {L : List Heap} (rM : RdH R L hM) (hw : H w0 R (hQ :: L) w) :
    Calls Try.prog 109 #[.slice a l.length c, .func (.func fc) ⟨[]⟩ ⟨lb⟩] w fun e w' => ∃ v L', e = .returned v ∧ H w0 R L' w' ∧ ∃ d hD, v = .tuple #[] ∧ L' = hD :: L ∧ d.Perm l ∧ SrtO cm d d.length ∧ OwT encI 1 3 a c d hD := by
  refine calls_in Try.func109 Try.ntmps109 rfl rfl (hw) ?_
  repeat' first
    | (refine J.isJ ?_; first | (first | (refine J.o 2 ?_; refine J.cv _ hΓ ?_) | (refine J.fc 142 ?_; refine J.call0 eBLen rfl rfl (fun w hw => (Try.bits_Len _ w (by omega) (by omega)).mono (by rintro e w' ⟨rfl, rfl⟩; exact ⟨rfl, Below.refl _ _⟩)) ?_) | (refine J.fc 141 ?_; refine J.callx ePdqC rfl rfl (fun w hw => pdqC_any cok hn hl oQ _ rM hw) ?_; rintro _ _ ⟨d, hD, rfl, rfl, h1, h2, h3⟩)) | (first | (refine J.o 0 ?_; refine J.ev' hΓ ?_) | refine J.nil ?_ | (refine J.o 3 ?_; first | refine J.ev' hΓ ?_) | (refine J.o 10 ?_; refine J.ev' hΓ ?_) | (refine J.o 11 ?_; refine J.ev' hΓ ?_)))
    | (first | refine JC.seq ?_ | refine JC.region ?_ | refine thenK.nn ?_)
    | (fail)
    | fail
  all_goals first | (exfalso; omega) | skip
  all_goals first | exact ret0 rfl (fun w hw => ⟨_, _, rfl, hw, d, hD, rfl, rfl, h1, h2, h3⟩) | exact ret0n rfl (fun w hw => ⟨_, _, rfl, hw, d, hD, rfl, rfl, h1, h2, h3⟩)
end Go.Proofs.Ytbhgahjeocnfcaa
namespace Go.Proofs.Ytbhgahjeocnfcaa
open Go Go.Cx Go.RowKit
set_option linter.unusedVariables false
set_option linter.unusedSimpArgs false
set_option maxHeartbeats 4000000
attribute [local irreducible] J JC thenK blockK loopK roundK drawK retK QW Qt pel List.set Calls
open Go.Maps Go.Lib
set_option maxRecDepth 8000
attribute [local irreducible] JE Br eK0 eK3 brK pc
section
variable {P : Program} {n : Nat} {w0 : World} {R : Heap} {K0 : Exit → Fr → List Heap → Prop} {f : Fr} {L : List Heap} {l0 : List Oper} {rest : List (Nat × Oper)} {q : Nat}
variable {Γ : List (Nat × TI)} {d : Nat} {ty : TypeId} {pos : String} {aft : Array Edge} {g : Option (Nat × Bool)}
variable {κ : Type} [DecidableEq κ] {kt e : TypeId} {ek : κ → Value}
theorem J.lkN {t : TypeId} {m x : Operand} {mm : List (κ × Nat)} {b : Nat} {h : Heap} {a : κ} {s1 s2 b1 b2 : Nat} {z1 : Option Value} {de : TypeDesc} (c : Nat) (K : Keyed P kt) (inj : ∀ x y, ek x = ek y → x = y) (mt : MapT P kt ek evI mm b h) (hr : RdH R L h) (hkey : ∃ l, keyOf P kt (ek a) = some l) (hΓ : Fits P Γ) (hget : (mget mm a).getD 0 = c)
    (k : J P n w0 R l0 K0 rest (upd f d (.int .i64 (c : Int))) L)
    (hg : wantB n f l0 ⟨some d, .lookup t m x false, ty, pos, aft, g⟩ = true := by exact rfl) (hm : Cx.ev n f m = .map (some b) := by exact rfl) (hx : Cx.ev n f x = ek a := by exact rfl) (ht : Go.Cx.look Γ t = some ⟨.map kt e, s1, z1, b1⟩ := by exact rfl) (he : Go.Cx.look Γ e = some ⟨de, s2, some (.int .i64 0), b2⟩ := by exact rfl) :
    J P n w0 R l0 K0 ((q + 1, ⟨some d, .lookup t m x false, ty, pos, aft, g⟩) :: rest) f L := by
  refine J.lk K inj mt hr hkey hΓ ?_ hg hm hx ht he
  subst hget
  cases hmm : mget mm a with
  | some y => rw [hmm] at k; exact k
  | none => rw [hmm] at k; exact k
end
end Go.Proofs.Ytbhgahjeocnfcaa
namespace Go.Proofs.Ytbhgahjeocnfcaa
open Go Go.Cx Go.RowKit
set_option linter.unusedVariables false
set_option linter.unusedSimpArgs false
set_option maxHeartbeats 4000000
attribute [local irreducible] J JC thenK blockK loopK roundK drawK retK QW Qt pel List.set Calls
open Go.Maps Go.Lib
set_option maxRecDepth 8000
attribute [local irreducible] JE Br eK0 eK3 brK pc
theorem eCmpS : Entr Try.prog 110 := Entr.of Try.func110 rfl rfl
theorem eSift : Entr Try.prog 51 := Entr.of Try.func51 rfl rfl
def cmS (W : Int → Nat) (x y : Int) : Int := if W x ≠ W y then (W y : Int) - W x else x - y
theorem cmpS_any {mm : List (Int × Nat)} {bm b8 : Nat} {hm : Heap} {W : Int → Nat} (mt : MapT Try.prog 3 ekI evI mm bm hm) (hW : ∀ u, (mget mm u).getD 0 = W u) (hb : ∀ u, W u ≤ 1000) (x y : Int) (hx : 1 ≤ x ∧ x ≤ 128) (hy : 1 ≤ y ∧ y ≤ 128) (w : World) (hw : Holds ([(b8, .cells ⟨[.map (some bm)]⟩ 40 (0, 0))] ++ hm) w) :
    Calls Try.prog 110 #[.int .i64 x, .int .i64 y, .pointer (some ⟨b8, 0, none⟩)] w fun e w' => e = .returned (.int .i64 (cmS W x y)) ∧ Below w.heap.size w w' := by
  have hbx := hb x
  have hby := hb y
  have q8 : ∀ L, Rd ([(b8, .cells ⟨[.map (some bm)]⟩ 40 (0, 0))] ++ hm) L b8 (.cells ⟨[.map (some bm)]⟩ 40 (0, 0)) := fun L => Rd.old (by simp)
  have qm : ∀ L, RdH ([(b8, .cells ⟨[.map (some bm)]⟩ 40 (0, 0))] ++ hm) L hm := fun L => RdH.old fun _ hh => List.mem_append_right _ hh
  have kx := keyI x (by omega)
  have ky := keyI y (by omega)
  unfold cmS
  by_cases hxy : W x = W y
  ·
    rw [if_neg (by simpa using hxy)]
    refine calls_of_JC (R := ([(b8, .cells ⟨[.map (some bm)]⟩ 40 (0, 0))] ++ hm)) Try.func110 Try.ntmps110 rfl rfl (hw) ?_
    repeat' first
      | (refine J.isJ ?_; first | (first | (refine J.o 4 ?_; refine J.lR hΓ ?_ (hr := q8 _)) | (refine J.o 9 ?_; first | refine J.lkN (a := x) (W x) keyedI ekI_inj mt (qm _) kx hΓ (hW x) ?_ | refine J.lkN (a := y) (W y) keyedI ekI_inj mt (qm _) ky hΓ (hW y) ?_)) | (first | (refine J.o 0 ?_; refine J.ev' hΓ ?_) | refine J.nil ?_ | (refine J.o 4 ?_; first | refine J.lR hΓ ?_) | (refine J.o 3 ?_; first | refine J.ev' hΓ ?_) | (refine J.o 1 ?_; first | refine J.sb ?_) | (refine J.o 10 ?_; refine J.ev' hΓ ?_) | (refine J.o 11 ?_; refine J.ev' hΓ ?_)))
      | (first | refine JC.seq ?_ | refine JC.region ?_ | refine JC.ret ?_ | refine JC.skip ?_ | refine thenK.nn ?_ | refine thenK.r ?_ | (refine JC.cond rfl (fun hc => ?_) (fun hc => ?_) <;> ((try simp only [decide_eq_true_eq, decide_eq_false_iff_not, beq_iff_eq, beq_eq_false_iff_ne, bne_iff_ne, bne_eq_false_iff_eq, Bool.not_eq_true', Bool.not_eq_false', Bool.not_eq_true, Bool.not_eq_false] at hc) <;> first | (first | (exact absurd rfl hc) | (exfalso; omega) | (exact absurd (hc.symm.trans (by assumption : _ = false)) (by decide)) | (exact absurd (hc.symm.trans (by assumption : _ = true)) (by decide))) | skip)))
      | (fail)
      | fail
    all_goals first | (exfalso; omega) | skip
    all_goals exact ret1f rfl rfl rfl (fun w1 hw => ⟨rfl, hw.below⟩)
  ·
    rw [if_pos hxy]
    refine calls_of_JC (R := ([(b8, .cells ⟨[.map (some bm)]⟩ 40 (0, 0))] ++ hm)) Try.func110 Try.ntmps110 rfl rfl (hw) ?_
    repeat' first
      | (refine J.isJ ?_; first | (first | (refine J.o 4 ?_; refine J.lR hΓ ?_ (hr := q8 _)) | (refine J.o 9 ?_; first | refine J.lkN (a := x) (W x) keyedI ekI_inj mt (qm _) kx hΓ (hW x) ?_ | refine J.lkN (a := y) (W y) keyedI ekI_inj mt (qm _) ky hΓ (hW y) ?_)) | (first | (refine J.o 0 ?_; refine J.ev' hΓ ?_) | refine J.nil ?_ | (refine J.o 4 ?_; first | refine J.lR hΓ ?_) | (refine J.o 3 ?_; first | refine J.ev' hΓ ?_) | (refine J.o 1 ?_; first | refine J.sb ?_) | (refine J.o 10 ?_; refine J.ev' hΓ ?_) | (refine J.o 11 ?_; refine J.ev' hΓ ?_)))
      | (first | refine JC.seq ?_ | refine JC.region ?_ | refine JC.ret ?_ | refine JC.skip ?_ | refine thenK.nn ?_ | refine thenK.r ?_ | (refine JC.cond rfl (fun hc => ?_) (fun hc => ?_) <;> ((try simp only [decide_eq_true_eq, decide_eq_false_iff_not, beq_iff_eq, beq_eq_false_iff_ne, bne_iff_ne, bne_eq_false_iff_eq, Bool.not_eq_true', Bool.not_eq_false', Bool.not_eq_true, Bool.not_eq_false] at hc) <;> first | (first | (exact absurd rfl hc) | (exfalso; omega) | (exact absurd (hc.symm.trans (by assumption : _ = false)) (by decide)) | (exact absurd (hc.symm.trans (by assumption : _ = true)) (by decide))) | skip)))
      | (fail)
      | fail
    all_goals first | (exfalso; omega) | skip
    all_goals exact ret1f rfl rfl rfl (fun w1 hw => ⟨rfl, hw.below⟩)
theorem cmS_ok {W : Int → Nat} {mm : List (Int × Nat)} {bm b8 : Nat} {hm : Heap} (mt : MapT Try.prog 3 ekI evI mm bm hm) (hW : ∀ u, (mget mm u).getD 0 = W u) (hb : ∀ u, W u ≤ 1000) {o : List Int} (ho : okOrd o) : CmpOk 110 [.pointer (some ⟨b8, 0, none⟩)] (cmS W) o ([(b8, .cells ⟨[.map (some bm)]⟩ 40 (0, 0))] ++ hm) :=
  ⟨eCmpS, fun x hx y hy w hw => cmpS_any mt hW hb x y (ho.1 x hx) (ho.1 y hy) w hw, fun x _ y _ hne h => by
    unfold cmS at h ⊢
    split at h <;> split <;> omega, fun x _ y _ z _ h1 h2 => by
    unfold cmS at h1 h2 ⊢
    split at h1 <;> split at h2 <;> split <;> omega⟩
def WtOf (ns : List N3) (o : List Int) (r : Nat) (W : Int → Nat) : Prop := ∃ S : List Nat, S.Nodup ∧ (∀ x, x ∈ S ↔ 2 ≤ x ∧ Rch ns r x) ∧ ∀ v, W v = cntV ns o S v
def sftO (F : VF) (q o : List Int) : List Int := q.foldl (fun o v => movO F o v) o
theorem movO_perm (F : VF) {o : List Int} {v : Int} (hv : v ∈ o) (hn : o.Nodup) : (movO F o v).Perm o := bestO_perm hv hn _ _
theorem sftO_perm (F : VF) : ∀ (q o : List Int), (∀ v ∈ q, v ∈ o) → o.Nodup → (sftO F q o).Perm o
  | [], o, _, _ => .refl _
  | v :: q, o, hv, hn => by
    have h1 := movO_perm F (hv v List.mem_cons_self) hn
    exact (sftO_perm F q (movO F o v) (fun u hu => h1.mem_iff.2 (hv u (List.mem_cons_of_mem _ hu))) (h1.nodup_iff.2 hn)).trans h1
theorem sftO_snoc (F : VF) (q : List Int) (v : Int) (o : List Int) : sftO F (q ++ [v]) o = movO F (sftO F q o) v := by
  unfold sftO
  rw [List.foldl_append]
  rfl
set_option maxHeartbeats 16000000 in
theorem Sift_any {F : VF} {o : List Int} {K : KS} {s : SS} {a : Nat} {hO hP : Heap} (sv : Stv F o K s a hO hP) (h8 : o.length ≤ 8) {w0 w : World} {R : Heap} {L : List Heap} {bs : Nat} (rS : RdH R L (stR K bs s hO)) (hw : H w0 R L w) :
    Calls Try.prog 51 #[.pointer (some ⟨bs, 0, none⟩), .int .i64 (a : Int)] w fun e w' => ∃ x L', e = .returned x ∧ H w0 R L' w' ∧ ∃ W q, WtOf s.ns o a W ∧ q.Perm o ∧ SrtO (cmS W) q q.length ∧ RebQ F (sftO F q o) L x L' := by
  have so := sv.so
  have ha := sv.sy.1
  have hnd := sv.ho.2
  have cO := fun w hw => Order_any so sv.po bs w hw
  have hol := so.no
  have hpl := sv.po.len
  refine calls_in Try.func51 Try.ntmps51 rfl rfl (hw) ?_
  repeat' first
    | (refine J.isJ ?_; first | (first | (refine J.fc 61 ?_; refine J.callx eChecked rfl rfl (fun w hw => checked_any so bs a ha rS hw) ?_; rintro _ _ ⟨rfl, rfl⟩) | (refine J.fc 108 ?_; refine J.call1 eWeights rfl rfl (fun w hw => weights_any so sv.po (by omega) bs a ha w (stR_of2 rS hw)) ?_; rintro _ hm ⟨bm, mm, S, rfl, mt, hSn, hSm, hSc⟩) | (refine J.o 7 ?_; refine J.al hΓ (fun b8 => ?_)) | (refine J.fc 19 ?_; refine J.call1 eOrder rfl rfl (fun w hw => cO w (stR_of2 rS.tl.tl hw)) ?_; rintro _ hQ ⟨aQ, cQ, rfl, oQ⟩) | (refine J.o 14 ?_; refine J.mf hΓ ?_)) | (first | (refine J.o 0 ?_; refine J.ev' hΓ ?_) | refine J.nil ?_ | (refine J.o 4 ?_; first | refine J.lT default hΓ ?_) | (refine J.o 3 ?_; first | refine J.iJ hΓ ?_ | refine J.ev' hΓ ?_) | (refine J.o 1 ?_; first | refine J.ad ?_) | (refine J.o 5 ?_; first | refine J.t0 hΓ ?_) | (refine J.o 7 ?_; refine J.al hΓ (fun _ => ?_)) | (refine J.o 10 ?_; refine J.ev' hΓ ?_) | (refine J.o 11 ?_; refine J.ev' hΓ ?_) | (refine J.o 14 ?_; refine J.mf hΓ ?_)))
    | (first | refine JC.seq ?_ | refine JC.region ?_ | refine JC.block ?_ | refine JC.ret ?_ | refine JC.exit ?_ | refine JC.skip ?_ | refine thenK.nn ?_ | refine thenK.x ?_ | refine blockK.nn ?_ | refine blockK.hit rfl ?_ | refine JC.condF rfl ?_ | (refine JC.cond rfl (fun hc => ?_) (fun hc => ?_) <;> ((try simp only [decide_eq_true_eq, decide_eq_false_iff_not, beq_iff_eq, beq_eq_false_iff_ne, bne_iff_ne, bne_eq_false_iff_eq, Bool.not_eq_true', Bool.not_eq_false', Bool.not_eq_true, Bool.not_eq_false] at hc) <;> first | (first | (exact absurd rfl hc) | (exfalso; omega) | (exact absurd (hc.symm.trans (by assumption : _ = false)) (by decide)) | (exact absurd (hc.symm.trans (by assumption : _ = true)) (by decide))) | skip)) | refine loopK.x ?_)
    | (fail)
    | fail
  all_goals first | (exfalso; omega) | skip
  rename_i L
  have hW : ∀ u, (mget mm u).getD 0 = cntV s.ns o S u := hSc
  have hWb : ∀ u, cntV s.ns o S u ≤ 1000 := fun u => by
    have h1 : cntV s.ns o S u ≤ S.length := List.length_filter_le _ _
    have h2 := rch_len so.wf ha hSn (fun x hx => ((hSm x).1 hx).2)
    have h3 := pow8 h8
    omega
  obtain ⟨W, hWd⟩ : ∃ W : Int → Nat, W = fun u => cntV s.ns o S u := ⟨_, rfl⟩
  have cok := cmS_ok (b8 := b8) mt (W := W) (fun u => by rw [hWd]; exact hSc u) (fun u => by rw [hWd]; exact hWb u) sv.ho
  have cO := fun w hw => Order_any so sv.po bs w hw
  repeat' first
    | (refine J.isJ ?_; first | (first | (refine J.fc 109 ?_; refine J.callx eSortF rfl rfl (fun w hw => sortF_any cok hnd (by omega) oQ (RdH.hd.append RdH.hd.tl) hw) ?_; rintro _ _ ⟨q, hD, rfl, rfl, hqp, hqs, oD⟩) | (refine J.fc 19 ?_; refine J.call1 eOrder rfl rfl (fun w hw => cO w (stR_of2 rS.tl.tl.tl hw)) ?_; rintro _ hQ2 ⟨aQ2, cQ2, rfl, oQ2⟩) | (refine J.fc 62 ?_; refine J.callx eReb2 rfl rfl (fun w hw => rebuilt_any sv h8 o rfl sv.ho (fun v h => h) aQ2 cQ2 hQ2 oQ2.sl rS.tl.tl.tl.tl RdH.hd hw) ?_; rintro _ _ ⟨b1, K1, s1, y1, hO1, hP1, rfl, rfl, sv1⟩)) | (first | (refine J.o 0 ?_; refine J.ev' hΓ ?_) | refine J.nil ?_ | (refine J.o 4 ?_; first | refine J.lT default hΓ ?_) | (refine J.o 3 ?_; first | refine J.iJ hΓ ?_ | refine J.ev' hΓ ?_) | (refine J.o 1 ?_; first | refine J.ad ?_) | (refine J.o 5 ?_; first | refine J.t0 hΓ ?_) | (refine J.o 7 ?_; refine J.al hΓ (fun _ => ?_)) | (refine J.o 10 ?_; refine J.ev' hΓ ?_) | (refine J.o 11 ?_; refine J.ev' hΓ ?_) | (refine J.o 14 ?_; refine J.mf hΓ ?_)))
    | (first | refine JC.seq ?_ | refine JC.region ?_ | refine JC.block ?_ | refine JC.ret ?_ | refine JC.exit ?_ | refine JC.skip ?_ | refine thenK.nn ?_ | refine thenK.x ?_ | refine blockK.nn ?_ | refine blockK.hit rfl ?_ | refine JC.condF rfl ?_ | (refine JC.cond rfl (fun hc => ?_) (fun hc => ?_) <;> ((try simp only [decide_eq_true_eq, decide_eq_false_iff_not, beq_iff_eq, beq_eq_false_iff_ne, bne_iff_ne, bne_eq_false_iff_eq, Bool.not_eq_true', Bool.not_eq_false', Bool.not_eq_true, Bool.not_eq_false] at hc) <;> first | (first | (exact absurd rfl hc) | (exfalso; omega) | (exact absurd (hc.symm.trans (by assumption : _ = false)) (by decide)) | (exact absurd (hc.symm.trans (by assumption : _ = true)) (by decide))) | skip)) | refine loopK.x ?_)
    | (fail)
    | fail
  all_goals first | (exfalso; omega) | skip
  have hql := hqp.length_eq
  refine JC.weak (L' := sF K1 b1 s1 ++ (hO1 :: hP1 :: hD :: L)) (fun w hw => H.sel (l := [_, _, _, _, _, _, _, _, _, _]) (M := L) hw [0, 1, 2, 3, 4, 5, 7]) ?_
  refine JC.loopG (fun i => i == 10 || i == 11 || i == 12 || i == 14 || Nat.ble 40 i) (fun m g L' => ∃ (i : Nat) (b : Nat) (K : KS) (s : SS) (y : Nat) (hO hP : Heap), g 40 = .int .i64 (i : Int) ∧ g 10 = .pointer (some ⟨b, 0, none⟩) ∧ g 11 = .int .i64 ((y : Nat) : Int) ∧ g 12 = .int .i64 0 ∧ i + m = o.length ∧ Stv F (sftO F (q.take i) o) K s y hO hP ∧ L' = sF K b s ++ (hO :: hP :: hD :: L)) o.length ⟨0, b1, K1, s1, y1, hO1, hP1, rfl, rfl, rfl, rfl, by omega, sv1, rfl⟩ ?_
  rintro m g _ ⟨i, b, Kc, sc, yc, hOc, hPc, e40, e10, e11, e12, him, svc, rfl⟩
  refine JC.pin 40 e40 (JC.pin 10 e10 (JC.pin 11 e11 (JC.pin 12 e12 ?_)))
  rcases Nat.lt_or_ge i o.length with hil | hil
  case inr =>
    obtain rfl : i = o.length := by omega
    rw [← hql, List.take_length] at svc
    repeat' first
      | (refine J.isJ ?_; first | (fail) | (first | (refine J.o 0 ?_; refine J.ev' hΓ ?_) | refine J.nil ?_ | (refine J.o 4 ?_; first | refine J.lT default hΓ ?_) | (refine J.o 3 ?_; first | refine J.iJ hΓ ?_ | refine J.ev' hΓ ?_) | (refine J.o 1 ?_; first | refine J.ad ?_) | (refine J.o 5 ?_; first | refine J.t0 hΓ ?_) | (refine J.o 7 ?_; refine J.al hΓ (fun _ => ?_)) | (refine J.o 10 ?_; refine J.ev' hΓ ?_) | (refine J.o 11 ?_; refine J.ev' hΓ ?_) | (refine J.o 14 ?_; refine J.mf hΓ ?_)))
      | (first | refine JC.seq ?_ | refine JC.region ?_ | refine JC.block ?_ | refine JC.ret ?_ | refine JC.exit ?_ | refine JC.skip ?_ | refine thenK.nn ?_ | refine thenK.x ?_ | refine blockK.nn ?_ | refine blockK.hit rfl ?_ | refine JC.condF rfl ?_ | (refine JC.cond rfl (fun hc => ?_) (fun hc => ?_) <;> ((try simp only [decide_eq_true_eq, decide_eq_false_iff_not, beq_iff_eq, beq_eq_false_iff_ne, bne_iff_ne, bne_eq_false_iff_eq, Bool.not_eq_true', Bool.not_eq_false', Bool.not_eq_true, Bool.not_eq_false] at hc) <;> first | (first | (exact absurd rfl hc) | (exfalso; omega) | (exact absurd (hc.symm.trans (by assumption : _ = false)) (by decide)) | (exact absurd (hc.symm.trans (by assumption : _ = true)) (by decide))) | skip)) | refine loopK.x ?_)
      | (fail)
      | fail
    all_goals first | (exfalso; omega) | skip
    exact ret3f rfl rfl rfl rfl rfl rfl rfl (fun w1 hw => ⟨_, _, rfl, H.drop6 hw, W, q, ⟨S, hSn, hSm, fun v => by rw [hWd]⟩, hqp, hqs, b, Kc, sc, yc, hOc, hPc, rfl, rfl, svc⟩)
  have hpc := sftO_perm F (q.take i) o (fun v hv => hqp.mem_iff.1 (List.mem_of_mem_take hv)) hnd
  have hlc := hpc.length_eq
  have hqi : q.getD i default ∈ sftO F (q.take i) o := hpc.mem_iff.2 (hqp.mem_iff.1 (getD_mem (by omega)))
  have hmv : movO F (sftO F (q.take i) o) (q.getD i default) = sftO F (q.take (i + 1)) o := by
    rw [← sftO_snoc, List.take_succ_eq_append_getElem (by omega), List.getD_eq_getElem?_getD, List.getElem?_eq_getElem (by omega)]
    rfl
  repeat' first
    | (refine J.isJ ?_; first | (first | (refine J.o 3 ?_; refine J.iJ hΓ ?_ (hs := oD.sl)) | (refine J.o 4 ?_; refine J.lT default hΓ ?_ (hs := oD.sl) (hr := RdH.app (sF Kc b sc) RdH.hd.tl.tl)) | (refine J.fc 111 ?_; refine J.callx eMoved rfl rfl (fun w hw => moved_any svc (by omega) hqi (stR_hd _) hw) ?_; rintro _ _ ⟨b2, K2, s2, y2, hO2, hP2, rfl, rfl, sv2⟩)) | (first | (refine J.o 0 ?_; refine J.ev' hΓ ?_) | refine J.nil ?_ | (refine J.o 4 ?_; first | refine J.lT default hΓ ?_) | (refine J.o 3 ?_; first | refine J.iJ hΓ ?_ | refine J.ev' hΓ ?_) | (refine J.o 1 ?_; first | refine J.ad ?_) | (refine J.o 5 ?_; first | refine J.t0 hΓ ?_) | (refine J.o 7 ?_; refine J.al hΓ (fun _ => ?_)) | (refine J.o 10 ?_; refine J.ev' hΓ ?_) | (refine J.o 11 ?_; refine J.ev' hΓ ?_) | (refine J.o 14 ?_; refine J.mf hΓ ?_)))
    | (first | refine JC.seq ?_ | refine JC.region ?_ | refine JC.block ?_ | refine JC.ret ?_ | refine JC.exit ?_ | refine JC.skip ?_ | refine thenK.nn ?_ | refine thenK.x ?_ | refine blockK.nn ?_ | refine blockK.hit rfl ?_ | refine JC.condF rfl ?_ | (refine JC.cond rfl (fun hc => ?_) (fun hc => ?_) <;> ((try simp only [decide_eq_true_eq, decide_eq_false_iff_not, beq_iff_eq, beq_eq_false_iff_ne, bne_iff_ne, bne_eq_false_iff_eq, Bool.not_eq_true', Bool.not_eq_false', Bool.not_eq_true, Bool.not_eq_false] at hc) <;> first | (first | (exact absurd rfl hc) | (exfalso; omega) | (exact absurd (hc.symm.trans (by assumption : _ = false)) (by decide)) | (exact absurd (hc.symm.trans (by assumption : _ = true)) (by decide))) | skip)) | refine loopK.x ?_)
    | (fail)
    | fail
  all_goals first | (exfalso; omega) | skip
  rw [hmv] at sv2
  refine loopK.nn (m - 1) (by omega) (by repeat (first | refine Ag.upd rfl ?_ | exact Ag.hv | refine Ag.hv2 (fun i hi => by simp at hi ⊢; omega) ?_)) ⟨_, ⟨i + 1, b2, K2, s2, y2, hO2, hP2, ?_, rfl, rfl, rfl, by omega, sv2, rfl⟩, fun w hw => H.sel (l := [_, _, _, _, _, _, _, _, _, _, _, _, _]) (M := L) hw [0, 1, 2, 3, 4, 5, 12]⟩
  show Value.int .i64 _ = _; congr 1
end Go.Proofs.Ytbhgahjeocnfcaa
namespace Go.Proofs.Ytbhgahjeocnfcaa
open Go Go.Cx Go.RowKit
set_option linter.unusedVariables false
set_option linter.unusedSimpArgs false
set_option maxHeartbeats 4000000
attribute [local irreducible] J JC thenK blockK loopK roundK drawK retK QW Qt pel List.set Calls
open Go.Maps Go.Lib
set_option maxRecDepth 8000
theorem bestO_le (sz : List Int → Nat) (rest : List Int) (v : Int) : ∀ i j, j ≤ i → sz (bestO sz rest v i) ≤ sz (insAt rest j v)
  | 0, j, h => by
    obtain rfl : j = 0 := by omega
    exact Nat.le_refl _
  | i + 1, j, h => by
    have ih := bestO_le sz rest v i
    unfold bestO
    split
    · rcases Nat.lt_or_ge j (i + 1) with g | g
      · have := ih j (by omega); omega
      · obtain rfl : j = i + 1 := by omega
        exact Nat.le_refl _
    · rcases Nat.lt_or_ge j (i + 1) with g | g
      · exact ih j (by omega)
      · obtain rfl : j = i + 1 := by omega
        omega
theorem ins_wo {v : Int} : ∀ {l : List Int}, v ∈ l → l.Nodup → ∃ i, i < l.length ∧ insAt (wo l v) i v = l
  | x :: l, hv, hn => by
    rw [List.nodup_cons] at hn
    by_cases hx : x = v
    · subst hx
      have : wo l x = l := List.filter_eq_self.2 fun y hy => by
        have : y ≠ x := fun e => hn.1 (e ▸ hy)
        simp [this]
      refine ⟨0, by simp, ?_⟩
      unfold wo at this ⊢
      rw [List.filter_cons_of_neg (by simp), this]
      simp [insAt]
    · have h1 : v ∈ l := by
        rcases List.mem_cons.1 hv with h | h
        · exact absurd h.symm hx
        · exact h
      obtain ⟨i, hi, e⟩ := ins_wo h1 hn.2
      refine ⟨i + 1, by simpa using hi, ?_⟩
      unfold wo at e ⊢
      rw [List.filter_cons_of_pos (by simp [hx])]
      unfold insAt at e ⊢
      rw [List.take_succ_cons, List.drop_succ_cons, List.cons_append, e]
theorem movO_le (F : VF) {o : List Int} {v : Int} (hv : v ∈ o) (hn : o.Nodup) : szF (movO F o v) F ≤ szF o F := by
  obtain ⟨i, hi, e⟩ := ins_wo hv hn
  have := bestO_le (fun l => szF l F) (wo o v) v (o.length - 1) i (by omega)
  rw [e] at this
  exact this
theorem sftO_le (F : VF) : ∀ (q o : List Int), (∀ v ∈ q, v ∈ o) → o.Nodup → szF (sftO F q o) F ≤ szF o F
  | [], o, _, _ => Nat.le_refl _
  | v :: q, o, hv, hn => by
    have h1 := movO_perm F (hv v List.mem_cons_self) hn
    have h2 := sftO_le F q (movO F o v) (fun u hu => h1.mem_iff.2 (hv u (List.mem_cons_of_mem _ hu))) (h1.nodup_iff.2 hn)
    exact Nat.le_trans h2 (movO_le F (hv v List.mem_cons_self) hn)
end Go.Proofs.Ytbhgahjeocnfcaa
namespace Go.Proofs.Ytbhgahjeocnfcaa
open Go Go.Cx Go.RowKit
set_option linter.unusedVariables false
set_option linter.unusedSimpArgs false
set_option maxHeartbeats 4000000
attribute [local irreducible] J JC thenK blockK loopK roundK drawK retK QW Qt pel List.set Calls
open Go.Maps Go.Lib
set_option maxRecDepth 8000
theorem deps_le {F : VF} {l : List Int} {K : KS} {s : SS} {y : Nat} {hO hP : Heap} (sv : Stv F l K s y hO hP) {m : List Int} (bel : Bel s.ns y m) (hd : ∀ v ∈ l, Deps F v) : l.length ≤ m.length := by
  have wf := sv.so.wf
  have ho := sv.ho
  have hx : ∀ k, k < l.length → ∃ j, Rch s.ns y j ∧ (nd s.ns j).p = k := fun k hk => by
    obtain ⟨β, hβ⟩ := hd _ (getD_mem hk)
    obtain ⟨j, h1, h2, h3⟩ := left_rch ho.2 wf sv.sy (Nat.le_of_lt hk) (G := fun b => F (restr (l.take k) β b)) ⟨β, fun _ => rfl⟩
    refine ⟨j, h1, (h3.top ho wf hk h2).2 ⟨β, ?_⟩⟩
    have hni : l.getD k default ∉ l.take k := fun h => by
      have := (take_at ho.2 hk (Nat.le_of_lt hk)).1 h
      omega
    have e : ∀ b : Bool, restr (l.take k) β (fun u => if u = l.getD k default then b else β u) = fun u => if u = l.getD k default then b else β u := fun b => funext fun u => by
      unfold restr
      split
      · rename_i hu
        rw [if_neg (fun h : u = l.getD k default => hni (by rw [← h]; exact hu))]
      · rfl
    show F (restr _ _ _) ≠ F (restr _ _ _)
    rw [e, e]
    exact hβ
  have hf : ∃ f : Nat → Nat, ∀ k, k < l.length → Rch s.ns y (f k) ∧ (nd s.ns (f k)).p = k := by
    refine ⟨fun k => if h : k < l.length then (hx k h).choose else 0, fun k hk => ?_⟩
    dsimp only
    rw [dif_pos hk]
    exact (hx k hk).choose_spec
  obtain ⟨f, hf⟩ := hf
  have hn : ((List.range l.length).map fun k => ((f k : Nat) : Int)).Nodup := by
    rw [List.Nodup, List.pairwise_map]
    refine List.nodup_range.imp_of_mem fun {a b} ha hb hne e => hne ?_
    have h1 := (hf a (List.mem_range.1 ha)).2
    have h2 := (hf b (List.mem_range.1 hb)).2
    have : f a = f b := by omega
    rw [← h1, ← h2, this]
  have := nodup_sub _ m hn fun x hx => by
    obtain ⟨k, hk, rfl⟩ := List.mem_map.1 hx
    have hk := List.mem_range.1 hk
    obtain ⟨h1, h2⟩ := hf k hk
    refine (bel.mem _).2 ⟨f k, rfl, ?_, h1⟩
    rcases Nat.lt_or_ge (f k) 2 with h | h
    · have := wf.pconst h
      omega
    · exact h
  simpa using this
def prV (n : Nat) (v : Int) : List Int := [v, v + (n : Int)]
theorem pk1 : szF (ints 2) (thF (pairP 1 1)) = 2 := by decide +kernel
theorem pk2 : szF (ints 4) (thF (pairP 2 2)) = 6 := by decide +kernel
theorem pk3 : szF (ints 6) (thF (pairP 3 3)) = 14 := by decide +kernel
theorem pk4 : szF (ints 8) (thF (pairP 4 4)) = 30 := by decide +kernel
theorem pj1 : ∀ a ∈ ints 1, [a].Nodup → szF ([a].flatMap (prV 1)) (thF (pairP 1 1)) = 2 := by decide +kernel
theorem pj2 : ∀ a ∈ ints 2, ∀ b ∈ ints 2, [a, b].Nodup → szF ([a, b].flatMap (prV 2)) (thF (pairP 2 2)) = 4 := by decide +kernel
theorem pj3 : ∀ a ∈ ints 3, ∀ b ∈ ints 3, ∀ c ∈ ints 3, [a, b, c].Nodup → szF ([a, b, c].flatMap (prV 3)) (thF (pairP 3 3)) = 6 := by decide +kernel
theorem pj4 : ∀ a ∈ ints 4, ∀ b ∈ ints 4, ∀ c ∈ ints 4, ∀ d ∈ ints 4, [a, b, c, d].Nodup → szF ([a, b, c, d].flatMap (prV 4)) (thF (pairP 4 4)) = 8 := by decide +kernel
def witV (n : Nat) (v : Int) : Int → Bool := fun u => decide (u = v + (n : Int)) || decide (u = v - (n : Int))
theorem dp_of {F : VF} {n : Nat} {v : Int} (h : (F (fun u => if u = v then false else witV n v u) != F (fun u => if u = v then true else witV n v u)) = true) : Deps F v := ⟨witV n v, by simpa using h⟩
theorem dp1 : ∀ v ∈ ints 2, (thF (pairP 1 1) (fun u => if u = v then false else witV 1 v u) != thF (pairP 1 1) (fun u => if u = v then true else witV 1 v u)) = true := by decide +kernel
theorem dp2 : ∀ v ∈ ints 4, (thF (pairP 2 2) (fun u => if u = v then false else witV 2 v u) != thF (pairP 2 2) (fun u => if u = v then true else witV 2 v u)) = true := by decide +kernel
theorem dp3 : ∀ v ∈ ints 6, (thF (pairP 3 3) (fun u => if u = v then false else witV 3 v u) != thF (pairP 3 3) (fun u => if u = v then true else witV 3 v u)) = true := by decide +kernel
theorem dp4 : ∀ v ∈ ints 8, (thF (pairP 4 4) (fun u => if u = v then false else witV 4 v u) != thF (pairP 4 4) (fun u => if u = v then true else witV 4 v u)) = true := by decide +kernel
structure PairF (n : Nat) : Prop where
  ok : okTh (2 * n) (pairP n n)
  co : 2 + costT (pairP n n) ≤ 1048576
  nat : szF (ints (2 * n)) (thF (pairP n n)) = 2 ^ (n + 1) - 2
  dep : ∀ v ∈ ints (2 * n), Deps (thF (pairP n n)) v
  prm : ((ints n).flatMap (prV n)).Perm (ints (2 * n))
  tog : ∀ p : List Int, p.Perm (ints n) → szF (p.flatMap (prV n)) (thF (pairP n n)) = 2 * n
theorem ints_mem1 {n : Nat} {p : List Int} (h : p.Perm (ints n)) {a : Int} (ha : a ∈ p) : a ∈ ints n := h.mem_iff.1 ha
theorem ints_nd (n : Nat) : (ints n).Nodup → ∀ p : List Int, p.Perm (ints n) → p.Nodup := fun h p hp => hp.nodup_iff.2 h
theorem pairF_all {n : Nat} (h1 : 1 ≤ n) (h4 : n ≤ 4) : PairF n := by
  have hn : n = 1 ∨ n = 2 ∨ n = 3 ∨ n = 4 := by omega
  rcases hn with rfl | rfl | rfl | rfl
  · refine ⟨okTh_iff.1 (by decide +kernel), by decide +kernel, pk1, fun v hv => dp_of (dp1 v hv), by decide +kernel, fun p hp => ?_⟩
    have hl := hp.length_eq
    rw [ints_len] at hl
    match p, hl with
    | [a], _ => exact pj1 a (ints_mem1 hp (by simp)) (ints_nd 1 (by decide +kernel) _ hp)
  · refine ⟨okTh_iff.1 (by decide +kernel), by decide +kernel, pk2, fun v hv => dp_of (dp2 v hv), by decide +kernel, fun p hp => ?_⟩
    have hl := hp.length_eq
    rw [ints_len] at hl
    match p, hl with
    | [a, b], _ => exact pj2 a (ints_mem1 hp (by simp)) b (ints_mem1 hp (by simp)) (ints_nd 2 (by decide +kernel) _ hp)
  · refine ⟨okTh_iff.1 (by decide +kernel), by decide +kernel, pk3, fun v hv => dp_of (dp3 v hv), by decide +kernel, fun p hp => ?_⟩
    have hl := hp.length_eq
    rw [ints_len] at hl
    match p, hl with
    | [a, b, c], _ => exact pj3 a (ints_mem1 hp (by simp)) b (ints_mem1 hp (by simp)) c (ints_mem1 hp (by simp)) (ints_nd 3 (by decide +kernel) _ hp)
  · refine ⟨okTh_iff.1 (by decide +kernel), by decide +kernel, pk4, fun v hv => dp_of (dp4 v hv), by decide +kernel, fun p hp => ?_⟩
    have hl := hp.length_eq
    rw [ints_len] at hl
    match p, hl with
    | [a, b, c, d], _ => exact pj4 a (ints_mem1 hp (by simp)) b (ints_mem1 hp (by simp)) c (ints_mem1 hp (by simp)) d (ints_mem1 hp (by simp)) (ints_nd 4 (by decide +kernel) _ hp)
theorem PairF.perm {n : Nat} (h : PairF n) {p : List Int} (hp : p.Perm (ints n)) : (p.flatMap (prV n)).Perm (ints (2 * n)) := (List.Perm.flatMap_right _ hp).trans h.prm
end Go.Proofs.Ytbhgahjeocnfcaa
namespace Go.Proofs.Ytbhgahjeocnfcaa
open Go Go.Cx Go.RowKit
set_option linter.unusedVariables false
set_option linter.unusedSimpArgs false
set_option maxHeartbeats 4000000
attribute [local irreducible] J JC thenK blockK loopK roundK drawK retK QW Qt pel List.set Calls
open Go.Maps Go.Lib
set_option maxRecDepth 8000
attribute [local irreducible] JE Br eK0 eK3 brK pc
theorem flatPr (n : Nat) : ∀ p : List Int, (p.flatMap (prV n)).length = 2 * p.length
  | [] => rfl
  | x :: p => by
    rw [List.flatMap_cons, List.length_append, flatPr n p]
    simp only [prV, List.length_cons, List.length_nil]
    omega
theorem takePr (n : Nat) (p : List Int) {i : Nat} (hi : i < p.length) : (p.take (i + 1)).flatMap (prV n) = (p.take i).flatMap (prV n) ++ [p.getD i default, p.getD i default + (n : Int)] := by
  rw [List.take_succ_eq_append_getElem hi, List.flatMap_append, List.getD_eq_getElem?_getD, List.getElem?_eq_getElem hi]
  simp [prV]
set_option maxHeartbeats 16000000 in
theorem pairs31_any (k : Nat) (hk : k < 256) (ks : List Nat) (ak : Option Addr) (ck : Nat) (hk1 : Heap) (hs : SlT encK 1 ak ks hk1) (hkl : ks.length ≤ 9223372036854775807) (hkb : ∀ k ∈ ks, k < 256) (w : World) (hw1 : Holds hk1 w) :
    Calls Try.prog 10 #[.int .u8 (k : Int), .slice ak ks.length ck] w fun e w' => e = .returned (.bool true) ∧ Below w.heap.size w w' := by
  have qK : ∀ L, RdH hk1 L hk1 := fun L => RdH.old fun _ hh => hh
  obtain ⟨n, hn⟩ : ∃ n, n = 1 + k % 4 := ⟨_, rfl⟩
  have hn1 : 1 ≤ n := by omega
  have hn4 : n ≤ 4 := by omega
  have hnv : Value.int .i64 ((1 + k % 4 : Nat) : Int) = .int .i64 (n : Int) := by rw [hn]
  have pf := pairF_all hn1 hn4
  have hl2 : (ints (2 * n)).length = 2 * n := ints_len _
  have hpw : 2 ^ (n + 1) ≤ 2 ^ 5 := Nat.pow_le_pow_right (by decide) (by omega)
  have hpw4 : 2 ^ 2 ≤ 2 ^ (n + 1) := Nat.pow_le_pow_right (by decide) (by omega)
  refine calls_of_JC (R := hk1) Try.func10 Try.ntmps10 rfl rfl (hw1) ?_
  repeat' first
    | (refine J.isJ ?_; first | (first | (refine J.o 2 ?_; refine J.gcv hΓ ?_ (hk := wI64 (by omega))) | (refine J.o 1 ?_; first | refine J.grem (a := k) (b := 4) ?_ | (refine J.gadd (a := 1) (b := k % 4) ?_ (hw := wI64 (by omega)); rw [hnv]) | refine J.gmul (a := 2) (b := n) ?_ (hw := wI64 (by omega))) | (refine J.fc 49 ?_; refine J.call1 ePairs rfl rfl (fun w hw => pairs_any n (by omega) w) ?_; rintro _ hT ⟨aT, cT, vs, rfl, hvs, ll⟩) | (refine J.fc 50 ?_; refine J.call1 eUpTo rfl rfl (fun w hw => upTo_any (2 * n) (by omega) w) ?_; rintro _ hU ⟨aU, cU, rfl, oU⟩) | (refine J.fc 16 ?_; refine J.callx eCom rfl rfl (fun w hw => compile_V (2 * n) (by omega) (ints (2 * n)) (List.Perm.refl _) aU cU hU oU.sl aT cT vs hT ll (pairP n n) hvs pf.ok pf.co RdH.hd RdH.hd.tl hw) ?_; rintro _ _ ⟨b1, K1, s1, y1, hO1, hP1, rfl, rfl, sv1⟩) | (refine J.fc 15 ?_; refine J.call1 eOrder31 rfl rfl (fun w hw => order31_any n (by omega) ks ak ck hk1 hs hkl hkb w (hw.rdH (qK _))) ?_; rintro _ hO ⟨aO, l, cO, rfl, hp, oO⟩)) | (first | (refine J.o 0 ?_; refine J.ev' hΓ ?_) | refine J.nil ?_ | (refine J.o 4 ?_; first | refine J.lT default hΓ ?_) | (refine J.o 3 ?_; first | refine J.iJ hΓ ?_ | refine J.ev' hΓ ?_) | (refine J.o 1 ?_; first | refine J.ad ?_) | (refine J.o 9 ?_; refine J.bl hΓ (fun _ => ?_)) | (refine J.o 10 ?_; refine J.ev' hΓ ?_) | (refine J.o 11 ?_; refine J.ev' hΓ ?_)))
    | (first | refine JC.seq ?_ | refine JC.region ?_ | refine JC.block ?_ | refine JC.ret ?_ | refine JC.exit ?_ | refine JC.skip ?_ | refine thenK.nn ?_ | refine thenK.x ?_ | refine blockK.nn ?_ | refine blockK.hit rfl ?_ | refine JC.condF rfl ?_ | (refine JC.cond rfl (fun hc => ?_) (fun hc => ?_) <;> ((try simp only [decide_eq_true_eq, decide_eq_false_iff_not, beq_iff_eq, beq_eq_false_iff_ne, bne_iff_ne, bne_eq_false_iff_eq, Bool.not_eq_true', Bool.not_eq_false', Bool.not_eq_true, Bool.not_eq_false] at hc) <;> first | (first | (exact absurd rfl hc) | (exfalso; omega) | (exact absurd (hc.symm.trans (by assumption : _ = false)) (by decide)) | (exact absurd (hc.symm.trans (by assumption : _ = true)) (by decide))) | skip)) | refine loopK.x ?_)
    | (fail)
    | fail
  all_goals first | (exfalso; omega) | skip
  have hll : l.length = n := by rw [hp.length_eq, ints_len]
  have hlb : ∀ i, i < l.length → 1 ≤ l.getD i default ∧ l.getD i default ≤ (n : Int) := fun i hi => (ints_mem _ _).1 (hp.mem_iff.1 (getD_mem hi))
  refine JC.nilF ?_
  refine JC.loop (fun i => i == 9 || i == 11 || Nat.ble 42 i) (fun m g L' => ∃ (i : Nat) (a : Option Addr) (c : Nat) (h : Heap), g 42 = .int .i64 (i : Int) ∧ g 9 = .slice a ((l.take i).flatMap (prV n)).length c ∧ i + m = l.length ∧ OwT encI 1 3 a c ((l.take i).flatMap (prV n)) h ∧ L' = h :: (hO :: (sF K1 b1 s1 ++ [hO1, hP1, hU, hT]))) l.length ⟨0, none, 0, [], rfl, rfl, by omega, OwT.nil (fun _ => rfl), rfl⟩ ?_
  rintro m g _ ⟨i, aL, cL, hL, e42, e9, him, oL, rfl⟩
  refine JC.pin 42 e42 (JC.pin 9 e9 ?_)
  rcases Nat.lt_or_ge i l.length with hil | hil
  case inl =>
    have hfl := flatPr n (l.take i)
    rw [List.length_take, Nat.min_eq_left (by omega)] at hfl
    have hvb := hlb i hil
    repeat' first
      | (refine J.isJ ?_; first | (first | (refine J.o 3 ?_; refine J.iJ hΓ ?_ (hs := oO.sl)) | (refine J.o 4 ?_; refine J.lT default hΓ ?_ (hs := oO.sl) (hr := RdH.hd.tl)) | (refine J.o 9 ?_; first | refine J.bl hΓ (fun _ => ?_) | refine J.ap1 (enc := encI) [l.getD i default, l.getD i default + (n : Int)] hΓ (fun _ _ h2 o2 => ?_) (ho := oL))) | (first | (refine J.o 0 ?_; refine J.ev' hΓ ?_) | refine J.nil ?_ | (refine J.o 4 ?_; first | refine J.lT default hΓ ?_) | (refine J.o 3 ?_; first | refine J.iJ hΓ ?_ | refine J.ev' hΓ ?_) | (refine J.o 1 ?_; first | refine J.ad ?_) | (refine J.o 9 ?_; refine J.bl hΓ (fun _ => ?_)) | (refine J.o 10 ?_; refine J.ev' hΓ ?_) | (refine J.o 11 ?_; refine J.ev' hΓ ?_)))
      | (first | refine JC.seq ?_ | refine JC.region ?_ | refine JC.block ?_ | refine JC.ret ?_ | refine JC.exit ?_ | refine JC.skip ?_ | refine thenK.nn ?_ | refine thenK.x ?_ | refine blockK.nn ?_ | refine blockK.hit rfl ?_ | refine JC.condF rfl ?_ | (refine JC.cond rfl (fun hc => ?_) (fun hc => ?_) <;> ((try simp only [decide_eq_true_eq, decide_eq_false_iff_not, beq_iff_eq, beq_eq_false_iff_ne, bne_iff_ne, bne_eq_false_iff_eq, Bool.not_eq_true', Bool.not_eq_false', Bool.not_eq_true, Bool.not_eq_false] at hc) <;> first | (first | (exact absurd rfl hc) | (exfalso; omega) | (exact absurd (hc.symm.trans (by assumption : _ = false)) (by decide)) | (exact absurd (hc.symm.trans (by assumption : _ = true)) (by decide))) | skip)) | refine loopK.x ?_)
      | (fail)
      | fail
    all_goals first | (exfalso; omega) | skip
    rw [← takePr n l hil] at o2 ⊢
    refine loopK.nn (m - 1) (by omega) (by repeat (first | refine Ag.upd rfl ?_ | exact Ag.hv | refine Ag.hv2 (fun i hi => by simp at hi ⊢; omega) ?_)) ⟨i + 1, _, _, _, ?_, rfl, by omega, o2, rfl⟩
    show Value.int .i64 _ = _; congr 1
  obtain rfl : i = l.length := by omega
  rw [List.take_length] at oL ⊢
  obtain ⟨r, hr⟩ : ∃ r, l.flatMap (prV n) = r := ⟨_, rfl⟩
  have hrp : r.Perm (ints (2 * n)) := hr ▸ pf.perm hp
  have hrz : szF r (thF (pairP n n)) = 2 * n := hr ▸ pf.tog l hp
  have hrl : r.length = 2 * n := by rw [hrp.length_eq, hl2]
  rw [hr] at oL ⊢
  repeat' first
    | (refine J.isJ ?_; first | (first | (refine J.fc 49 ?_; refine J.call1 ePairs rfl rfl (fun w hw => pairs_any n (by omega) w) ?_; rintro _ hT2 ⟨aT2, cT2, vs2, rfl, hvs2, ll2⟩) | (refine J.fc 16 ?_; refine J.callx eCom rfl rfl (fun w hw => compile_V (2 * n) (by omega) r hrp aL cL hL oL.sl aT2 cT2 vs2 hT2 ll2 (pairP n n) hvs2 pf.ok pf.co RdH.hd.tl RdH.hd hw) ?_; rintro _ _ ⟨b2, K2, s2, y2, hO2, hP2, rfl, rfl, sv2⟩) | (refine J.fc 51 ?_; refine J.callx eSift rfl rfl (fun w hw => Sift_any sv2 (by omega) (stR_hd _) hw) ?_; rintro _ _ ⟨W, q, wt, hqp, hqs, b3, K3, s3, y3, hO3, hP3, rfl, rfl, sv3⟩)) | (first | (refine J.o 0 ?_; refine J.ev' hΓ ?_) | refine J.nil ?_ | (refine J.o 4 ?_; first | refine J.lT default hΓ ?_) | (refine J.o 3 ?_; first | refine J.iJ hΓ ?_ | refine J.ev' hΓ ?_) | (refine J.o 1 ?_; first | refine J.ad ?_) | (refine J.o 9 ?_; refine J.bl hΓ (fun _ => ?_)) | (refine J.o 10 ?_; refine J.ev' hΓ ?_) | (refine J.o 11 ?_; refine J.ev' hΓ ?_)))
    | (first | refine JC.seq ?_ | refine JC.region ?_ | refine JC.block ?_ | refine JC.ret ?_ | refine JC.exit ?_ | refine JC.skip ?_ | refine thenK.nn ?_ | refine thenK.x ?_ | refine blockK.nn ?_ | refine blockK.hit rfl ?_ | refine JC.condF rfl ?_ | (refine JC.cond rfl (fun hc => ?_) (fun hc => ?_) <;> ((try simp only [decide_eq_true_eq, decide_eq_false_iff_not, beq_iff_eq, beq_eq_false_iff_ne, bne_iff_ne, bne_eq_false_iff_eq, Bool.not_eq_true', Bool.not_eq_false', Bool.not_eq_true, Bool.not_eq_false] at hc) <;> first | (first | (exact absurd rfl hc) | (exfalso; omega) | (exact absurd (hc.symm.trans (by assumption : _ = false)) (by decide)) | (exact absurd (hc.symm.trans (by assumption : _ = true)) (by decide))) | skip)) | refine loopK.x ?_)
    | (fail)
    | fail
  all_goals first | (exfalso; omega) | skip
  have hr3 := sftO_perm (thF (pairP n n)) q r (fun v hv => hqp.mem_iff.1 hv) sv2.ho.2
  have hz3 := sftO_le (thF (pairP n n)) q r (fun v hv => hqp.mem_iff.1 hv) sv2.ho.2
  have hnat : szF (ints (2 * n)) (thF (pairP n n)) = 1 * 2 ^ (n + 1) - 2 := by rw [Nat.one_mul]; exact pf.nat
  have h3p := hr3.trans hrp
  repeat' first
    | (refine J.isJ ?_; first | (first | (refine J.o 2 ?_; refine J.gcv hΓ ?_ (hk := wU64 (by omega))) | (refine J.o 1 ?_; first | refine J.gadd (a := n) (b := 1) ?_ (hw := wI64 (by omega)) | refine J.gmul (a := 2) (b := n) ?_ (hw := wI64 (by omega)) | refine J.gshl (a := 1) (j := n + 1) ?_ (hw := wI64 (by omega)) | refine J.gsub (a := 1 * 2 ^ (n + 1)) (b := 2) ?_) | (refine J.fc 20 ?_; first | (refine J.callx eSize rfl rfl (fun w hw => Size_any sv1.so b1 y1 sv1.sy.1 (stR_b (stR_tl (stR_tl (stR_hd _).tl.tl.tl K2 b2 s2 hO2 hP2) K3 b3 s3 hO3 hP3)) (stR_N (stR_tl (stR_tl (stR_hd _).tl.tl.tl K2 b2 s2 hO2 hP2) K3 b3 s3 hO3 hP3)) hw) ?_; rintro _ _ ⟨l1, rfl, rfl, bel1⟩; have hs1 := (sv1.size bel1).trans hnat) | (refine J.callx eSize rfl rfl (fun w hw => Size_any sv2.so b2 y2 sv2.sy.1 (stR_b (stR_tl (stR_hd _) K3 b3 s3 hO3 hP3)) (stR_N (stR_tl (stR_hd _) K3 b3 s3 hO3 hP3)) hw) ?_; rintro _ _ ⟨l2, rfl, rfl, bel2⟩; have hs2 := (sv2.size bel2).trans hrz) | (refine J.callx eSize rfl rfl (fun w hw => Size_any sv3.so b3 y3 sv3.sy.1 (stR_b (stR_hd _)) (stR_N (stR_hd _)) hw) ?_; rintro _ _ ⟨l3, rfl, rfl, bel3⟩; have hs3 : l3.length = 2 * n := (by have g1 := sv3.size bel3; have g2 := deps_le sv3 bel3 (fun v hv => pf.dep v (h3p.mem_iff.1 hv)); have g3 := hr3.length_eq; omega))) | (refine J.o 11 ?_; first | refine J.eqT2 hΓ hs1 ?_ | refine J.eqT2 hΓ hs2 ?_ | refine J.eqT2 hΓ hs3 ?_) | (refine J.fc 14 ?_; refine J.call0 eWorks31 rfl rfl (fun w hw => works31_any w) ?_)) | (first | (refine J.o 0 ?_; refine J.ev' hΓ ?_) | refine J.nil ?_ | (refine J.o 4 ?_; first | refine J.lT default hΓ ?_) | (refine J.o 3 ?_; first | refine J.iJ hΓ ?_ | refine J.ev' hΓ ?_) | (refine J.o 1 ?_; first | refine J.ad ?_) | (refine J.o 9 ?_; refine J.bl hΓ (fun _ => ?_)) | (refine J.o 10 ?_; refine J.ev' hΓ ?_) | (refine J.o 11 ?_; refine J.ev' hΓ ?_)))
    | (first | refine JC.seq ?_ | refine JC.region ?_ | refine JC.block ?_ | refine JC.ret ?_ | refine JC.exit ?_ | refine JC.skip ?_ | refine thenK.nn ?_ | refine thenK.x ?_ | refine blockK.nn ?_ | refine blockK.hit rfl ?_ | refine JC.condF rfl ?_ | (refine JC.cond rfl (fun hc => ?_) (fun hc => ?_) <;> ((try simp only [decide_eq_true_eq, decide_eq_false_iff_not, beq_iff_eq, beq_eq_false_iff_ne, bne_iff_ne, bne_eq_false_iff_eq, Bool.not_eq_true', Bool.not_eq_false', Bool.not_eq_true, Bool.not_eq_false] at hc) <;> first | (first | (exact absurd rfl hc) | (exfalso; omega) | (exact absurd (hc.symm.trans (by assumption : _ = false)) (by decide)) | (exact absurd (hc.symm.trans (by assumption : _ = true)) (by decide))) | skip)) | refine loopK.x ?_)
    | fail
  all_goals first | (exfalso; omega) | skip
  all_goals (refine ret1f rfl rfl rfl (fun w1 hw => ⟨rfl, hw.below⟩))
end Go.Proofs.Ytbhgahjeocnfcaa
