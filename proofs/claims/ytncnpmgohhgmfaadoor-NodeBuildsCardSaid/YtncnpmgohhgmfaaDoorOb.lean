/- The document's builder: sorted, put, Add. -/
import Derived.Test.YtncnpmgohhgmfaaDoorOa
namespace Go.Proofs.YtncnpmgohhgmfaaDoor
open Go Go.Cx Go.RowKit
set_option linter.unusedVariables false
set_option linter.unusedSimpArgs false
set_option maxHeartbeats 4000000
attribute [local irreducible] J JC thenK blockK loopK roundK drawK retK QW Qt pel List.set Calls
attribute [local irreducible] JE Br eK0 eK2 eK3 brK
theorem insS_at : ∀ (l : List Int) (x : Int) (p : Nat), l.Pairwise (· ≤ ·) → p ≤ l.length → (∀ y, y ∈ l.drop p → x < y) → (0 < p → l.getD (p - 1) default ≤ x) → insS l x = l.take p ++ x :: l.drop p
  | [], x, p, _, hp, _, _ => by
    have : p = 0 := by simpa using hp
    subst this; rfl
  | y :: l, x, 0, _, _, h1, _ => by
    unfold insS
    rw [if_pos (h1 y List.mem_cons_self)]; rfl
  | y :: l, x, p + 1, hs, hp, h1, h2 => by
    rw [List.pairwise_cons] at hs
    have hyx : y ≤ x := by
      have h3 := h2 (Nat.succ_pos _)
      rw [Nat.add_sub_cancel] at h3
      cases p with
      | zero => exact h3
      | succ p =>
        have h4 : (y :: l).getD (p + 1) default = l.getD p default := rfl
        rw [h4] at h3
        have := hs.1 _ (mem_g l p (by rw [List.length_cons] at hp; omega))
        omega
    unfold insS
    rw [if_neg (by omega), insS_at l x p hs.2 (by rw [List.length_cons] at hp; omega) h1 fun h0 => by
      have h3 := h2 (Nat.succ_pos _)
      rw [Nat.add_sub_cancel] at h3
      obtain ⟨p', rfl⟩ : ∃ p', p = p' + 1 := ⟨p - 1, by omega⟩
      exact h3]
    rfl
theorem set_mid {α : Type} (T : List α) (x y : α) (U : List α) (n : Nat) (h : T.length = n) : (T ++ x :: U).set n y = T ++ y :: U := by
  rw [← h, List.set_append_right _ _ (Nat.le_refl _), Nat.sub_self, List.set_cons_zero]
theorem getD_mid {α : Type} [Inhabited α] (T : List α) (x : α) (U : List α) (n : Nat) (h : T.length = n) : (T ++ x :: U).getD n default = x := by
  rw [← h, List.getD_eq_getElem?_getD, List.getElem?_append_right (Nat.le_refl _), Nat.sub_self]; rfl
/-- a number on its way to its place -/
def wayS (S : List Int) (x : Int) (p : Nat) : List Int := S.take p ++ x :: S.drop p
theorem wayS_len (S : List Int) (x : Int) (p : Nat) : (wayS S x p).length = S.length + 1 := by
  unfold wayS
  rw [List.length_append, List.length_cons, ← Nat.add_assoc, ← List.length_append, List.take_append_drop]
theorem wayS_at (S : List Int) (x : Int) (p : Nat) (h : p ≤ S.length) : (wayS S x p).getD p default = x := getD_mid _ _ _ _ (by rw [List.length_take]; omega)
theorem wayS_eq (S : List Int) (x : Int) (q : Nat) (h : q < S.length) : wayS S x (q + 1) = S.take q ++ S.getD q default :: x :: S.drop (q + 1) := by
  unfold wayS; rw [take_g S q h, List.append_assoc]; rfl
theorem wayS_before (S : List Int) (x : Int) (q : Nat) (h : q < S.length) : (wayS S x (q + 1)).getD q default = S.getD q default := by
  rw [wayS_eq S x q h]; exact getD_mid _ _ _ _ (by rw [List.length_take]; omega)
theorem wayS_swap (S : List Int) (x : Int) (q : Nat) (h : q < S.length) : ((wayS S x (q + 1)).set (q + 1) (S.getD q default)).set q x = wayS S x q := by
  have hl : (S.take q).length = q := by rw [List.length_take]; omega
  rw [wayS_eq S x q h, show S.take q ++ S.getD q default :: x :: S.drop (q + 1) = (S.take q ++ [S.getD q default]) ++ x :: S.drop (q + 1) by simp, set_mid _ _ _ _ (q + 1) (by rw [List.length_append, hl]; rfl), List.append_assoc]
  show (S.take q ++ S.getD q default :: (S.getD q default :: S.drop (q + 1))).set q x = _
  rw [set_mid _ _ _ _ q hl]
  unfold wayS
  rw [drop_g S q h]
set_option maxHeartbeats 16000000 in
theorem sortR_any (a : Option Addr) (c : Nat) (l : List Int) (h : Heap) (hs : SlT encI 1 a l h) (hl : l.length ≤ 1000000) (w : World) (hw : Holds h w) :
    Calls Tryd.prog 47 #[.slice a l.length c] w (Gives (fun v g => ∃ ao co, v = .slice ao (sortS l).length co ∧ OwT encI 1 3 ao co (sortS l) g) w) := by
  have q0 : ∀ L, RdH h L h := fun L => RdH.old fun _ hh => hh
  refine calls_of_JC (R := h) Tryd.func47 Tryd.ntmps47 rfl rfl (hw) ?_
  repeat' first
    | (refine J.isJ ?_; first | (fail) | (first | (refine J.o 0 ?_; refine J.ev' hΓ ?_) | refine J.nil ?_ | refine J.kd ?_ | (refine J.o 4 ?_; first | refine J.e0 hΓ ?_ | refine J.e1 hΓ ?_ | refine J.e2 hΓ ?_ | refine J.lT default hΓ ?_ | refine J.lR hΓ ?_) | (refine J.o 3 ?_; first | refine J.iJ hΓ ?_ | refine J.fP hΓ ?_ | refine J.iC hΓ ?_ | refine J.ev' hΓ ?_) | (refine J.o 1 ?_; first | refine J.ad ?_ | refine J.sb ?_ | refine J.ng ?_) | (refine J.o 5 ?_; first | refine J.t0 hΓ ?_ | refine J.t1 hΓ ?_ | refine J.t2 hΓ ?_ | refine J.tT _ default hΓ (fun _ _ => ?_) | refine J.tT1 _ default hΓ (fun _ _ => ?_) | refine J.tT2 _ default hΓ (fun _ _ => ?_)) | (refine J.o 6 ?_; refine J.bx (fun _ => ?_)) | (refine J.o 7 ?_; refine J.al hΓ (fun _ => ?_)) | (refine J.o 8 ?_; refine J.bd hΓ ?_) | (refine J.o 9 ?_; refine J.bl hΓ (fun _ => ?_)) | (refine J.o 10 ?_; refine J.ev' hΓ ?_) | (refine J.o 11 ?_; refine J.ev' hΓ ?_) | refine J.kn ?_) | ((fail_if_success refine J.wt ?_); refine J.gc rfl rfl (fun hc => ?_) (fun hc => ?_) <;> ((try simp only [decide_eq_true_eq, decide_eq_false_iff_not, beq_iff_eq, beq_eq_false_iff_ne, bne_iff_ne, bne_eq_false_iff_eq, Bool.not_eq_true', Bool.not_eq_false', Bool.not_eq_true, Bool.not_eq_false] at hc) <;> first | (first | (exact absurd rfl hc) | (exfalso; omega) | (exact absurd (hc.symm.trans (by assumption : _ = false)) (by decide)) | (exact absurd (hc.symm.trans (by assumption : _ = true)) (by decide))) | skip)))
    | (first | refine JC.seq ?_ | refine JC.region ?_ | refine JC.block ?_ | refine JC.ret ?_ | refine JC.exit ?_ | refine JC.skip ?_ | refine thenK.nn ?_ | refine thenK.r ?_ | refine thenK.x ?_ | refine blockK.nn ?_ | refine blockK.r ?_ | refine blockK.hit rfl ?_ | refine blockK.miss rfl ?_ | refine JC.condT rfl ?_ | refine JC.condF rfl ?_ | (refine JC.cond rfl (fun hc => ?_) (fun hc => ?_) <;> ((try simp only [decide_eq_true_eq, decide_eq_false_iff_not, beq_iff_eq, beq_eq_false_iff_ne, bne_iff_ne, bne_eq_false_iff_eq, Bool.not_eq_true', Bool.not_eq_false', Bool.not_eq_true, Bool.not_eq_false] at hc) <;> first | (first | (exact absurd rfl hc) | (exfalso; omega) | (exact absurd (hc.symm.trans (by assumption : _ = false)) (by decide)) | (exact absurd (hc.symm.trans (by assumption : _ = true)) (by decide))) | skip)) | refine drawK.nn ?_ | refine roundK.nn ?_ | refine roundK.r ?_ | refine roundK.x ?_ | refine loopK.r ?_ | refine loopK.x ?_)
    | (fail)
    | fail
  refine JC.weak (L' := [[]]) (fun w hw => hw.nilF) ?_
  refine JC.gen [(0, .slice a l.length c), (3, .slice none 0 0), (4, .int .i64 0)] ⟨rfl, rfl, rfl, trivial⟩ (fun F1 => ?_)
  refine JC.loopG (fun i => Nat.ble 3 i) (fun m g L' => ∃ (k : Nat) (ao : Option Addr) (co : Nat) (hO : Heap), g 4 = .int .i64 (k : Int) ∧ g 3 = .slice ao k co ∧ k + m = l.length ∧ OwT encI 1 3 ao co (sortS (l.take k)) hO ∧ L' = [hO]) l.length ⟨0, none, 0, [], rfl, rfl, by omega, OwT.nil (fun _ => rfl), rfl⟩ ?_
  rintro m g L' ⟨k, ao, co, hO, e4, e3, hkm, oO, rfl⟩
  refine JC.pin 4 e4 (JC.pin 3 e3 ?_)
  clear e4 e3
  have hSl := sortS_len (l.take k)
  rw [List.length_take] at hSl
  rcases Nat.lt_or_ge k l.length with hk | hk
  case inr =>
    have hke : k = l.length := by omega
    rw [List.take_of_length_le hk] at oO hSl
    subst hke
    repeat' first
      | (refine J.isJ ?_; first | (fail) | (first | (refine J.o 0 ?_; refine J.ev' hΓ ?_) | refine J.nil ?_ | refine J.kd ?_ | (refine J.o 4 ?_; first | refine J.e0 hΓ ?_ | refine J.e1 hΓ ?_ | refine J.e2 hΓ ?_ | refine J.lT default hΓ ?_ | refine J.lR hΓ ?_) | (refine J.o 3 ?_; first | refine J.iJ hΓ ?_ | refine J.fP hΓ ?_ | refine J.iC hΓ ?_ | refine J.ev' hΓ ?_) | (refine J.o 1 ?_; first | refine J.ad ?_ | refine J.sb ?_ | refine J.ng ?_) | (refine J.o 5 ?_; first | refine J.t0 hΓ ?_ | refine J.t1 hΓ ?_ | refine J.t2 hΓ ?_ | refine J.tT _ default hΓ (fun _ _ => ?_) | refine J.tT1 _ default hΓ (fun _ _ => ?_) | refine J.tT2 _ default hΓ (fun _ _ => ?_)) | (refine J.o 6 ?_; refine J.bx (fun _ => ?_)) | (refine J.o 7 ?_; refine J.al hΓ (fun _ => ?_)) | (refine J.o 8 ?_; refine J.bd hΓ ?_) | (refine J.o 9 ?_; refine J.bl hΓ (fun _ => ?_)) | (refine J.o 10 ?_; refine J.ev' hΓ ?_) | (refine J.o 11 ?_; refine J.ev' hΓ ?_) | refine J.kn ?_) | ((fail_if_success refine J.wt ?_); refine J.gc rfl rfl (fun hc => ?_) (fun hc => ?_) <;> ((try simp only [decide_eq_true_eq, decide_eq_false_iff_not, beq_iff_eq, beq_eq_false_iff_ne, bne_iff_ne, bne_eq_false_iff_eq, Bool.not_eq_true', Bool.not_eq_false', Bool.not_eq_true, Bool.not_eq_false] at hc) <;> first | (first | (exact absurd rfl hc) | (exfalso; omega) | (exact absurd (hc.symm.trans (by assumption : _ = false)) (by decide)) | (exact absurd (hc.symm.trans (by assumption : _ = true)) (by decide))) | skip)))
      | (first | refine JC.seq ?_ | refine JC.region ?_ | refine JC.block ?_ | refine JC.ret ?_ | refine JC.exit ?_ | refine JC.skip ?_ | refine thenK.nn ?_ | refine thenK.r ?_ | refine thenK.x ?_ | refine blockK.nn ?_ | refine blockK.r ?_ | refine blockK.hit rfl ?_ | refine blockK.miss rfl ?_ | refine JC.condT rfl ?_ | refine JC.condF rfl ?_ | (refine JC.cond rfl (fun hc => ?_) (fun hc => ?_) <;> ((try simp only [decide_eq_true_eq, decide_eq_false_iff_not, beq_iff_eq, beq_eq_false_iff_ne, bne_iff_ne, bne_eq_false_iff_eq, Bool.not_eq_true', Bool.not_eq_false', Bool.not_eq_true, Bool.not_eq_false] at hc) <;> first | (first | (exact absurd rfl hc) | (exfalso; omega) | (exact absurd (hc.symm.trans (by assumption : _ = false)) (by decide)) | (exact absurd (hc.symm.trans (by assumption : _ = true)) (by decide))) | skip)) | refine drawK.nn ?_ | refine roundK.nn ?_ | refine roundK.r ?_ | refine roundK.x ?_ | refine loopK.r ?_ | refine loopK.x ?_)
      | (fail)
      | fail
    all_goals first | (exfalso; omega) | exact ret1f rfl rfl rfl (fun w1 hw => Gives.of hw ⟨ao, co, by show Value.slice _ _ _ = Value.slice _ _ _; congr 1; omega, oO⟩)
  have hst : sortS (l.take (k + 1)) = insS (sortS (l.take k)) (l.getD k default) := by
    unfold sortS; rw [take_g l k hk, List.foldl_append]; rfl
  have hso := sortS_sorted (l.take k)
  generalize hSg : sortS (l.take k) = S at *
  have hSl : S.length = k := by omega
  clear hSg
  generalize hx : l.getD k default = x at *
  have hSx : (S ++ [x]).length = k + 1 := by rw [List.length_append, hSl]; rfl
  have hw0 : S ++ [x] = wayS S x k := by unfold wayS; rw [List.take_of_length_le (by omega), List.drop_eq_nil_of_le (by omega)]
  repeat' first
    | (refine J.isJ ?_; first | (first | (refine J.o 4 ?_; refine J.lT default hΓ ?_ (hs := hs) (hr := q0 _); rw [hx]) | (refine J.o 9 ?_; first | (first | (refine J.ap1 (enc := encI) [x] hΓ (fun a2 c2 h2 o2 => ?_)) | (refine J.perm (br1.cons _) ?_; refine J.ap1 (enc := encI) [x] hΓ (fun a2 c2 h2 o2 => ?_)) | (refine J.perm (br2.cons _) ?_; refine J.ap1 (enc := encI) [x] hΓ (fun a2 c2 h2 o2 => ?_)) | (refine J.perm (br3.cons _) ?_; refine J.ap1 (enc := encI) [x] hΓ (fun a2 c2 h2 o2 => ?_)) | (refine J.perm (br4.cons _) ?_; refine J.ap1 (enc := encI) [x] hΓ (fun a2 c2 h2 o2 => ?_)) | (refine J.perm (br5.cons _) ?_; refine J.ap1 (enc := encI) [x] hΓ (fun a2 c2 h2 o2 => ?_))) | (refine J.perm br1 ?_; first | (refine J.ap1 (enc := encI) [x] hΓ (fun a2 c2 h2 o2 => ?_)) | (refine J.perm (br1.cons _) ?_; refine J.ap1 (enc := encI) [x] hΓ (fun a2 c2 h2 o2 => ?_)) | (refine J.perm (br2.cons _) ?_; refine J.ap1 (enc := encI) [x] hΓ (fun a2 c2 h2 o2 => ?_)) | (refine J.perm (br3.cons _) ?_; refine J.ap1 (enc := encI) [x] hΓ (fun a2 c2 h2 o2 => ?_)) | (refine J.perm (br4.cons _) ?_; refine J.ap1 (enc := encI) [x] hΓ (fun a2 c2 h2 o2 => ?_)) | (refine J.perm (br5.cons _) ?_; refine J.ap1 (enc := encI) [x] hΓ (fun a2 c2 h2 o2 => ?_))) | (refine J.perm br2 ?_; first | (refine J.ap1 (enc := encI) [x] hΓ (fun a2 c2 h2 o2 => ?_)) | (refine J.perm (br1.cons _) ?_; refine J.ap1 (enc := encI) [x] hΓ (fun a2 c2 h2 o2 => ?_)) | (refine J.perm (br2.cons _) ?_; refine J.ap1 (enc := encI) [x] hΓ (fun a2 c2 h2 o2 => ?_)) | (refine J.perm (br3.cons _) ?_; refine J.ap1 (enc := encI) [x] hΓ (fun a2 c2 h2 o2 => ?_)) | (refine J.perm (br4.cons _) ?_; refine J.ap1 (enc := encI) [x] hΓ (fun a2 c2 h2 o2 => ?_)) | (refine J.perm (br5.cons _) ?_; refine J.ap1 (enc := encI) [x] hΓ (fun a2 c2 h2 o2 => ?_))))) | (first | (refine J.o 0 ?_; refine J.ev' hΓ ?_) | refine J.nil ?_ | refine J.kd ?_ | (refine J.o 4 ?_; first | refine J.e0 hΓ ?_ | refine J.e1 hΓ ?_ | refine J.e2 hΓ ?_ | refine J.lT default hΓ ?_ | refine J.lR hΓ ?_) | (refine J.o 3 ?_; first | refine J.iJ hΓ ?_ | refine J.fP hΓ ?_ | refine J.iC hΓ ?_ | refine J.ev' hΓ ?_) | (refine J.o 1 ?_; first | refine J.ad ?_ | refine J.sb ?_ | refine J.ng ?_) | (refine J.o 5 ?_; first | refine J.t0 hΓ ?_ | refine J.t1 hΓ ?_ | refine J.t2 hΓ ?_ | refine J.tT _ default hΓ (fun _ _ => ?_) | refine J.tT1 _ default hΓ (fun _ _ => ?_) | refine J.tT2 _ default hΓ (fun _ _ => ?_)) | (refine J.o 6 ?_; refine J.bx (fun _ => ?_)) | (refine J.o 7 ?_; refine J.al hΓ (fun _ => ?_)) | (refine J.o 8 ?_; refine J.bd hΓ ?_) | (refine J.o 9 ?_; refine J.bl hΓ (fun _ => ?_)) | (refine J.o 10 ?_; refine J.ev' hΓ ?_) | (refine J.o 11 ?_; refine J.ev' hΓ ?_) | refine J.kn ?_) | ((fail_if_success refine J.wt ?_); refine J.gc rfl rfl (fun hc => ?_) (fun hc => ?_) <;> ((try simp only [decide_eq_true_eq, decide_eq_false_iff_not, beq_iff_eq, beq_eq_false_iff_ne, bne_iff_ne, bne_eq_false_iff_eq, Bool.not_eq_true', Bool.not_eq_false', Bool.not_eq_true, Bool.not_eq_false] at hc) <;> first | (first | (exact absurd rfl hc) | (exfalso; omega) | (exact absurd (hc.symm.trans (by assumption : _ = false)) (by decide)) | (exact absurd (hc.symm.trans (by assumption : _ = true)) (by decide))) | skip)))
    | (first | refine JC.seq ?_ | refine JC.region ?_ | refine JC.block ?_ | refine JC.ret ?_ | refine JC.exit ?_ | refine JC.skip ?_ | refine thenK.nn ?_ | refine thenK.r ?_ | refine thenK.x ?_ | refine blockK.nn ?_ | refine blockK.r ?_ | refine blockK.hit rfl ?_ | refine blockK.miss rfl ?_ | refine JC.condT rfl ?_ | refine JC.condF rfl ?_ | (refine JC.cond rfl (fun hc => ?_) (fun hc => ?_) <;> ((try simp only [decide_eq_true_eq, decide_eq_false_iff_not, beq_iff_eq, beq_eq_false_iff_ne, bne_iff_ne, bne_eq_false_iff_eq, Bool.not_eq_true', Bool.not_eq_false', Bool.not_eq_true, Bool.not_eq_false] at hc) <;> first | (first | (exact absurd rfl hc) | (exfalso; omega) | (exact absurd (hc.symm.trans (by assumption : _ = false)) (by decide)) | (exact absurd (hc.symm.trans (by assumption : _ = true)) (by decide))) | skip)) | refine drawK.nn ?_ | refine roundK.nn ?_ | refine roundK.r ?_ | refine roundK.x ?_ | refine loopK.r ?_ | refine loopK.x ?_)
    | (fail)
    | fail
  all_goals first | (exfalso; omega) | skip
  rw [hw0] at o2
  refine JC.loop (fun i => i == 5 || Nat.ble 22 i) (fun m2 g L' => ∃ (p : Nat) (hO : Heap), g 5 = .int .i64 (p : Int) ∧ p = m2 ∧ p ≤ k ∧ (∀ y, y ∈ S.drop p → x < y) ∧ OwT encI 1 3 a2 c2 (wayS S x p) hO ∧ L' = [hO]) k ⟨k, _, ?_, rfl, Nat.le_refl _, fun y hy => (by rw [List.drop_eq_nil_of_le (by omega)] at hy; exact absurd hy List.not_mem_nil), o2, rfl⟩ ?_
  · show Value.int .i64 _ = _; congr 1; omega
  clear o2 oO
  rintro m2 g2 L' ⟨p, hP, e5, rfl, hpk, hgt, oP, rfl⟩
  refine JC.pin 5 e5 ?_
  clear e5
  have hwl : (wayS S x p).length = (S ++ [x]).length := by rw [wayS_len, hSx, hSl]
  have hwl2 : (wayS S x p).length = k + 1 := by rw [wayS_len, hSl]
  have hat := wayS_at S x p (by omega)
  have hdone : (0 < p → S.getD (p - 1) default ≤ x) → wayS S x p = sortS (l.take (k + 1)) := fun h => by
    rw [hst, insS_at S x p hso (by omega) hgt h]; rfl
  by_cases hmv : 0 < p ∧ x < S.getD (p - 1) default
  case neg =>
    have hd := hdone (fun h0 => by
      have : ¬ x < S.getD (p - 1) default := fun h => hmv ⟨h0, h⟩
      omega)
    have hcmp : 0 < p → ¬ x < S.getD (p - 1) default := fun h0 h => hmv ⟨h0, h⟩
    rcases Nat.eq_zero_or_pos p with hp0 | hp0
    · subst hp0
      repeat' first
        | (refine J.isJ ?_; first | (fail) | (first | (refine J.o 0 ?_; refine J.ev' hΓ ?_) | refine J.nil ?_ | refine J.kd ?_ | (refine J.o 4 ?_; first | refine J.e0 hΓ ?_ | refine J.e1 hΓ ?_ | refine J.e2 hΓ ?_ | refine J.lT default hΓ ?_ | refine J.lR hΓ ?_) | (refine J.o 3 ?_; first | refine J.iJ hΓ ?_ | refine J.fP hΓ ?_ | refine J.iC hΓ ?_ | refine J.ev' hΓ ?_) | (refine J.o 1 ?_; first | refine J.ad ?_ | refine J.sb ?_ | refine J.ng ?_) | (refine J.o 5 ?_; first | refine J.t0 hΓ ?_ | refine J.t1 hΓ ?_ | refine J.t2 hΓ ?_ | refine J.tT _ default hΓ (fun _ _ => ?_) | refine J.tT1 _ default hΓ (fun _ _ => ?_) | refine J.tT2 _ default hΓ (fun _ _ => ?_)) | (refine J.o 6 ?_; refine J.bx (fun _ => ?_)) | (refine J.o 7 ?_; refine J.al hΓ (fun _ => ?_)) | (refine J.o 8 ?_; refine J.bd hΓ ?_) | (refine J.o 9 ?_; refine J.bl hΓ (fun _ => ?_)) | (refine J.o 10 ?_; refine J.ev' hΓ ?_) | (refine J.o 11 ?_; refine J.ev' hΓ ?_) | refine J.kn ?_) | ((fail_if_success refine J.wt ?_); refine J.gc rfl rfl (fun hc => ?_) (fun hc => ?_) <;> ((try simp only [decide_eq_true_eq, decide_eq_false_iff_not, beq_iff_eq, beq_eq_false_iff_ne, bne_iff_ne, bne_eq_false_iff_eq, Bool.not_eq_true', Bool.not_eq_false', Bool.not_eq_true, Bool.not_eq_false] at hc) <;> first | (first | (exact absurd rfl hc) | (exfalso; omega) | (exact absurd (hc.symm.trans (by assumption : _ = false)) (by decide)) | (exact absurd (hc.symm.trans (by assumption : _ = true)) (by decide))) | skip)))
        | (first | refine JC.seq ?_ | refine JC.region ?_ | refine JC.block ?_ | refine JC.ret ?_ | refine JC.exit ?_ | refine JC.skip ?_ | refine thenK.nn ?_ | refine thenK.r ?_ | refine thenK.x ?_ | refine blockK.nn ?_ | refine blockK.r ?_ | refine blockK.hit rfl ?_ | refine blockK.miss rfl ?_ | refine JC.condT rfl ?_ | refine JC.condF rfl ?_ | (refine JC.cond rfl (fun hc => ?_) (fun hc => ?_) <;> ((try simp only [decide_eq_true_eq, decide_eq_false_iff_not, beq_iff_eq, beq_eq_false_iff_ne, bne_iff_ne, bne_eq_false_iff_eq, Bool.not_eq_true', Bool.not_eq_false', Bool.not_eq_true, Bool.not_eq_false] at hc) <;> first | (first | (exact absurd rfl hc) | (exfalso; omega) | (exact absurd (hc.symm.trans (by assumption : _ = false)) (by decide)) | (exact absurd (hc.symm.trans (by assumption : _ = true)) (by decide))) | skip)) | refine drawK.nn ?_ | refine roundK.nn ?_ | refine roundK.r ?_ | refine roundK.x ?_ | refine loopK.r ?_ | refine loopK.x ?_)
        | ((refine JC.drawN [] [] (by kernel_rfl) (by kernel_rfl) ?_))
        | fail
      all_goals first | (exfalso; omega) | skip
      rw [hd] at oP
      refine loopK.nn (m - 1) (by omega) (by repeat (first | refine Ag.upd rfl ?_ | exact Ag.hv | refine Ag.hv2 (fun i hi => by simp at hi ⊢; omega) ?_)) ⟨_, ⟨k + 1, a2, c2, hP, ?_, ?_, by omega, oP, rfl⟩, fun w hw => hw⟩
      · show Value.int .i64 _ = _; congr 1
      · show Value.slice _ _ _ = Value.slice _ _ _; congr 1
    · obtain ⟨q, rfl⟩ : ∃ q, p = q + 1 := ⟨p - 1, by omega⟩
      have hbf := wayS_before S x q (by omega)
      have hcq : ¬ x < S.getD q default := hcmp hp0
      have hq1 : (((q + 1 : Nat) : Int) - 1).toNat = q := by omega
      repeat' first
        | (refine J.isJ ?_; first | ((refine J.o 4 ?_; refine J.lT default hΓ ?_ (hs := oP.sl) (hr := RdH.hd); first | rw [hat] | rw [hq1, hbf])) | (first | (refine J.o 0 ?_; refine J.ev' hΓ ?_) | refine J.nil ?_ | refine J.kd ?_ | (refine J.o 4 ?_; first | refine J.e0 hΓ ?_ | refine J.e1 hΓ ?_ | refine J.e2 hΓ ?_ | refine J.lT default hΓ ?_ | refine J.lR hΓ ?_) | (refine J.o 3 ?_; first | refine J.iJ hΓ ?_ | refine J.fP hΓ ?_ | refine J.iC hΓ ?_ | refine J.ev' hΓ ?_) | (refine J.o 1 ?_; first | refine J.ad ?_ | refine J.sb ?_ | refine J.ng ?_) | (refine J.o 5 ?_; first | refine J.t0 hΓ ?_ | refine J.t1 hΓ ?_ | refine J.t2 hΓ ?_ | refine J.tT _ default hΓ (fun _ _ => ?_) | refine J.tT1 _ default hΓ (fun _ _ => ?_) | refine J.tT2 _ default hΓ (fun _ _ => ?_)) | (refine J.o 6 ?_; refine J.bx (fun _ => ?_)) | (refine J.o 7 ?_; refine J.al hΓ (fun _ => ?_)) | (refine J.o 8 ?_; refine J.bd hΓ ?_) | (refine J.o 9 ?_; refine J.bl hΓ (fun _ => ?_)) | (refine J.o 10 ?_; refine J.ev' hΓ ?_) | (refine J.o 11 ?_; refine J.ev' hΓ ?_) | refine J.kn ?_) | ((fail_if_success refine J.wt ?_); refine J.gc rfl rfl (fun hc => ?_) (fun hc => ?_) <;> ((try simp only [decide_eq_true_eq, decide_eq_false_iff_not, beq_iff_eq, beq_eq_false_iff_ne, bne_iff_ne, bne_eq_false_iff_eq, Bool.not_eq_true', Bool.not_eq_false', Bool.not_eq_true, Bool.not_eq_false] at hc) <;> first | (first | (exact absurd rfl hc) | (exfalso; omega) | (exact absurd (hc.symm.trans (by assumption : _ = false)) (by decide)) | (exact absurd (hc.symm.trans (by assumption : _ = true)) (by decide))) | skip)))
        | (first | refine JC.seq ?_ | refine JC.region ?_ | refine JC.block ?_ | refine JC.ret ?_ | refine JC.exit ?_ | refine JC.skip ?_ | refine thenK.nn ?_ | refine thenK.r ?_ | refine thenK.x ?_ | refine blockK.nn ?_ | refine blockK.r ?_ | refine blockK.hit rfl ?_ | refine blockK.miss rfl ?_ | refine JC.condT rfl ?_ | refine JC.condF rfl ?_ | (refine JC.cond rfl (fun hc => ?_) (fun hc => ?_) <;> ((try simp only [decide_eq_true_eq, decide_eq_false_iff_not, beq_iff_eq, beq_eq_false_iff_ne, bne_iff_ne, bne_eq_false_iff_eq, Bool.not_eq_true', Bool.not_eq_false', Bool.not_eq_true, Bool.not_eq_false] at hc) <;> first | (first | (exact absurd rfl hc) | (exfalso; omega) | (exact absurd (hc.symm.trans (by assumption : _ = false)) (by decide)) | (exact absurd (hc.symm.trans (by assumption : _ = true)) (by decide))) | skip)) | refine drawK.nn ?_ | refine roundK.nn ?_ | refine roundK.r ?_ | refine roundK.x ?_ | refine loopK.r ?_ | refine loopK.x ?_)
        | ((refine JC.drawN [] [] (by kernel_rfl) (by kernel_rfl) ?_))
        | fail
      all_goals first | (exfalso; omega) | skip
      rw [hd] at oP
      refine loopK.nn (m - 1) (by omega) (by repeat (first | refine Ag.upd rfl ?_ | exact Ag.hv | refine Ag.hv2 (fun i hi => by simp at hi ⊢; omega) ?_)) ⟨_, ⟨k + 1, a2, c2, hP, ?_, ?_, by omega, oP, rfl⟩, fun w hw => hw⟩
      · show Value.int .i64 _ = _; congr 1
      · show Value.slice _ _ _ = Value.slice _ _ _; congr 1
  obtain ⟨hp0, hlt⟩ := hmv
  obtain ⟨q, rfl⟩ : ∃ q, p = q + 1 := ⟨p - 1, by omega⟩
  have hlt : x < S.getD q default := hlt
  have hbf := wayS_before S x q (by omega)
  have hq1 : (((q + 1 : Nat) : Int) - 1).toNat = q := by omega
  have hsw := wayS_swap S x q (by omega)
  repeat' first
    | (refine J.isJ ?_; first | ((refine J.o 4 ?_; refine J.lT default hΓ ?_ (hs := oP.sl) (hr := RdH.hd); first | rw [hat] | rw [hq1, hbf])) | (first | (refine J.o 0 ?_; refine J.ev' hΓ ?_) | refine J.nil ?_ | refine J.kd ?_ | (refine J.o 4 ?_; first | refine J.e0 hΓ ?_ | refine J.e1 hΓ ?_ | refine J.e2 hΓ ?_ | refine J.lT default hΓ ?_ | refine J.lR hΓ ?_) | (refine J.o 3 ?_; first | refine J.iJ hΓ ?_ | refine J.fP hΓ ?_ | refine J.iC hΓ ?_ | refine J.ev' hΓ ?_) | (refine J.o 1 ?_; first | refine J.ad ?_ | refine J.sb ?_ | refine J.ng ?_) | (refine J.o 5 ?_; first | refine J.t0 hΓ ?_ | refine J.t1 hΓ ?_ | refine J.t2 hΓ ?_ | refine J.tT _ default hΓ (fun _ _ => ?_) | refine J.tT1 _ default hΓ (fun _ _ => ?_) | refine J.tT2 _ default hΓ (fun _ _ => ?_)) | (refine J.o 6 ?_; refine J.bx (fun _ => ?_)) | (refine J.o 7 ?_; refine J.al hΓ (fun _ => ?_)) | (refine J.o 8 ?_; refine J.bd hΓ ?_) | (refine J.o 9 ?_; refine J.bl hΓ (fun _ => ?_)) | (refine J.o 10 ?_; refine J.ev' hΓ ?_) | (refine J.o 11 ?_; refine J.ev' hΓ ?_) | refine J.kn ?_) | ((fail_if_success refine J.wt ?_); refine J.gc rfl rfl (fun hc => ?_) (fun hc => ?_) <;> ((try simp only [decide_eq_true_eq, decide_eq_false_iff_not, beq_iff_eq, beq_eq_false_iff_ne, bne_iff_ne, bne_eq_false_iff_eq, Bool.not_eq_true', Bool.not_eq_false', Bool.not_eq_true, Bool.not_eq_false] at hc) <;> first | (first | (exact absurd rfl hc) | (exfalso; omega) | (exact absurd (hc.symm.trans (by assumption : _ = false)) (by decide)) | (exact absurd (hc.symm.trans (by assumption : _ = true)) (by decide))) | skip)))
    | (first | refine JC.seq ?_ | refine JC.region ?_ | refine JC.block ?_ | refine JC.ret ?_ | refine JC.exit ?_ | refine JC.skip ?_ | refine thenK.nn ?_ | refine thenK.r ?_ | refine thenK.x ?_ | refine blockK.nn ?_ | refine blockK.r ?_ | refine blockK.hit rfl ?_ | refine blockK.miss rfl ?_ | refine JC.condT rfl ?_ | refine JC.condF rfl ?_ | (refine JC.cond rfl (fun hc => ?_) (fun hc => ?_) <;> ((try simp only [decide_eq_true_eq, decide_eq_false_iff_not, beq_iff_eq, beq_eq_false_iff_ne, bne_iff_ne, bne_eq_false_iff_eq, Bool.not_eq_true', Bool.not_eq_false', Bool.not_eq_true, Bool.not_eq_false] at hc) <;> first | (first | (exact absurd rfl hc) | (exfalso; omega) | (exact absurd (hc.symm.trans (by assumption : _ = false)) (by decide)) | (exact absurd (hc.symm.trans (by assumption : _ = true)) (by decide))) | skip)) | refine drawK.nn ?_ | refine roundK.nn ?_ | refine roundK.r ?_ | refine roundK.x ?_ | refine loopK.r ?_ | refine loopK.x ?_)
    | ((refine JC.drawN [] [] (by kernel_rfl) (by kernel_rfl) ?_))
    | fail
  all_goals first | (exfalso; omega) | skip
  rename_i oQ
  rw [hq1, hsw] at oQ
  refine loopK.nn q (by omega) (by repeat (first | refine Ag.upd rfl ?_ | exact Ag.hv)) ⟨q, _, ?_, rfl, by omega, fun y hy => ?_, oQ, rfl⟩
  · show Value.int .i64 _ = _; congr 1; omega
  · rw [drop_g S q (by omega)] at hy
    rcases List.mem_cons.1 hy with rfl | hy
    · exact hlt
    · exact hgt y hy
theorem ePutR : Entr Tryd.prog 44 := Entr.of Tryd.func44 rfl rfl
theorem eAddR : Entr Tryd.prog 22 := Entr.of Tryd.func22 rfl rfl
structure BR (vs : List NV) (a : Option Addr) (cap : Nat) (ho hi : Heap) : Prop where
  ow : OwT encNV 3 40 a cap vs ho
  ins : ∀ v, v ∈ vs → SlT encI 1 v.a v.l hi
def bLR (n : Int) (b : Nat) (a : Option Addr) (vs : List NV) (cap : Nat) (ho hi : Heap) : List Heap := [[(b, bRO n a vs.length cap)], ho, hi]
theorem idx_drop (vs : List NV) (x : PN) (k : Nat) (hk : k < vs.length) : idxP ((vs.drop k).map pnV) x k = if pnV (vs.getD k default) = x then (k : Int) else idxP ((vs.drop (k + 1)).map pnV) x ((k + 1 : Nat) : Int) := by
  rw [drop_g vs k hk]; rfl
set_option maxHeartbeats 16000000 in
theorem putR_any (v : NV) {w0 w : World} {R : Heap} {L : List Heap} {n : Int} {b cap : Nat} {a : Option Addr} {vs : List NV} {ho hi hv : Heap} (bs : BR vs a cap ho hi) (hs : SlT encI 1 v.a v.l hv) (hll : v.l.length ≤ 1000000) (okb : ∀ u, u ∈ vs → u.l.length ≤ 1000000) (hvl : vs.length < 65536) (hw : H w0 R (hv :: (bLR n b a vs cap ho hi ++ L)) w) :
    Calls Tryd.prog 44 #[.pointer (some ⟨b, 0, none⟩), .agg ⟨encNV v⟩] w fun e w' => ∃ v' L', e = .returned v' ∧ H w0 R L' w' ∧ ∃ a' cap' ho' hi' vs', v' = .tuple #[.int .i64 (putP (vs.map pnV) (pnV v)).1, .int .i64 0] ∧ L' = bLR n b a' vs' cap' ho' hi' ++ L ∧ BR vs' a' cap' ho' hi' ∧ vs'.map pnV = (putP (vs.map pnV) (pnV v)).2 := by
  obtain ⟨ow, ins⟩ := bs
  have hso := ow.sl
  have hl2 : (vs ++ [v]).length = vs.length + 1 := by rw [List.length_append]; rfl
  unfold bLR at hw ⊢
  simp only [List.cons_append, List.nil_append] at hw
  refine calls_in Tryd.func44 Tryd.ntmps44 rfl rfl (hw) ?_
  unfold bRO
  repeat' first
    | (refine J.isJ ?_; first | (fail) | (first | (refine J.o 0 ?_; refine J.ev' hΓ ?_) | refine J.nil ?_ | refine J.kd ?_ | (refine J.o 4 ?_; first | refine J.e0 hΓ ?_ | refine J.e1 hΓ ?_ | refine J.e2 hΓ ?_ | refine J.lT default hΓ ?_ | refine J.lR hΓ ?_) | (refine J.o 3 ?_; first | refine J.iJ hΓ ?_ | refine J.fP hΓ ?_ | refine J.iC hΓ ?_ | refine J.ev' hΓ ?_) | (refine J.o 1 ?_; first | refine J.ad ?_ | refine J.sb ?_ | refine J.ng ?_) | (refine J.o 5 ?_; first | refine J.t0 hΓ ?_ | refine J.t1 hΓ ?_ | refine J.t2 hΓ ?_ | refine J.tT _ default hΓ (fun _ _ => ?_) | refine J.tT1 _ default hΓ (fun _ _ => ?_) | refine J.tT2 _ default hΓ (fun _ _ => ?_)) | (refine J.o 6 ?_; refine J.bx (fun _ => ?_)) | (refine J.o 7 ?_; refine J.al hΓ (fun _ => ?_)) | (refine J.o 8 ?_; refine J.bd hΓ ?_) | (refine J.o 9 ?_; refine J.bl hΓ (fun _ => ?_)) | (refine J.o 10 ?_; refine J.ev' hΓ ?_) | (refine J.o 11 ?_; refine J.ev' hΓ ?_) | refine J.kn ?_) | ((fail_if_success refine J.wt ?_); refine J.gc rfl rfl (fun hc => ?_) (fun hc => ?_) <;> ((try simp only [decide_eq_true_eq, decide_eq_false_iff_not, beq_iff_eq, beq_eq_false_iff_ne, bne_iff_ne, bne_eq_false_iff_eq, Bool.not_eq_true', Bool.not_eq_false', Bool.not_eq_true, Bool.not_eq_false] at hc) <;> first | (first | (exact absurd rfl hc) | (exfalso; omega) | (exact absurd (hc.symm.trans (by assumption : _ = false)) (by decide)) | (exact absurd (hc.symm.trans (by assumption : _ = true)) (by decide))) | skip)))
    | (first | refine JC.seq ?_ | refine JC.region ?_ | refine JC.block ?_ | refine JC.ret ?_ | refine JC.exit ?_ | refine JC.skip ?_ | refine thenK.nn ?_ | refine thenK.r ?_ | refine thenK.x ?_ | refine blockK.nn ?_ | refine blockK.r ?_ | refine blockK.hit rfl ?_ | refine blockK.miss rfl ?_ | refine JC.condT rfl ?_ | refine JC.condF rfl ?_ | (refine JC.cond rfl (fun hc => ?_) (fun hc => ?_) <;> ((try simp only [decide_eq_true_eq, decide_eq_false_iff_not, beq_iff_eq, beq_eq_false_iff_ne, bne_iff_ne, bne_eq_false_iff_eq, Bool.not_eq_true', Bool.not_eq_false', Bool.not_eq_true, Bool.not_eq_false] at hc) <;> first | (first | (exact absurd rfl hc) | (exfalso; omega) | (exact absurd (hc.symm.trans (by assumption : _ = false)) (by decide)) | (exact absurd (hc.symm.trans (by assumption : _ = true)) (by decide))) | skip)) | refine drawK.nn ?_ | refine roundK.nn ?_ | refine roundK.r ?_ | refine roundK.x ?_ | refine loopK.r ?_ | refine loopK.x ?_)
    | (fail)
    | fail
  rename_i n3
  refine JC.gen [(0, .pointer (some ⟨b, 0, none⟩)), (3, .pointer (some ⟨n3, 0, none⟩)), (6, .int .i64 0)] ⟨rfl, rfl, rfl, trivial⟩ (fun F1 => ?_)
  refine JC.loop (fun i => Nat.ble 6 i && Nat.ble i 25) (fun m g L' => ∃ (k : Nat), g 6 = .int .i64 (k : Int) ∧ k + m = vs.length ∧ (pnV v ∈ vs.map pnV ↔ pnV v ∈ (vs.drop k).map pnV) ∧ idxP (vs.map pnV) (pnV v) 0 = idxP ((vs.drop k).map pnV) (pnV v) k ∧ L' = [(n3, .cells ⟨encNV v⟩ 40 (0, 0))] :: hv :: [(b, bRO n a vs.length cap)] :: ho :: hi :: L) vs.length ⟨0, rfl, by omega, Iff.rfl, rfl, rfl⟩ ?_
  rintro m g L' ⟨k, e6, hkm, hmem, hidx, rfl⟩
  refine JC.pin 6 e6 ?_
  clear e6
  unfold bRO encNV
  rcases Nat.lt_or_ge k vs.length with hk | hk
  case inr =>
    rw [List.drop_eq_nil_of_le hk] at hmem
    have hni : pnV v ∉ vs.map pnV := fun h => absurd (hmem.1 h) List.not_mem_nil
    have hp : putP (vs.map pnV) (pnV v) = (((vs.map pnV).length : Int), vs.map pnV ++ [pnV v]) := if_neg hni
    repeat' first
      | (refine J.isJ ?_; first | (first | (refine J.o 4 ?_; first | refine J.e3 hΓ ?_ | refine J.e4 hΓ ?_) | (refine J.o 4 ?_; refine J.lR hΓ ?_ (hr := Rd.hd.tl.tl)) | (refine J.o 5 ?_; first | (refine J.perm br3 ?_; refine J.t0 hΓ ?_) | (refine J.perm br4 ?_; refine J.t0 hΓ ?_) | (refine J.perm br5 ?_; refine J.t0 hΓ ?_) | (refine J.perm br6 ?_; refine J.t0 hΓ ?_) | (refine J.perm br7 ?_; refine J.t0 hΓ ?_)) | (refine J.o 9 ?_; first | (first | (refine J.ap1 (enc := encNV) [v] hΓ (fun a2 c2 h2 o2 => ?_)) | (refine J.perm (br1.cons _) ?_; refine J.ap1 (enc := encNV) [v] hΓ (fun a2 c2 h2 o2 => ?_)) | (refine J.perm (br2.cons _) ?_; refine J.ap1 (enc := encNV) [v] hΓ (fun a2 c2 h2 o2 => ?_)) | (refine J.perm (br3.cons _) ?_; refine J.ap1 (enc := encNV) [v] hΓ (fun a2 c2 h2 o2 => ?_)) | (refine J.perm (br4.cons _) ?_; refine J.ap1 (enc := encNV) [v] hΓ (fun a2 c2 h2 o2 => ?_)) | (refine J.perm (br5.cons _) ?_; refine J.ap1 (enc := encNV) [v] hΓ (fun a2 c2 h2 o2 => ?_))) | (refine J.perm br1 ?_; first | (refine J.ap1 (enc := encNV) [v] hΓ (fun a2 c2 h2 o2 => ?_)) | (refine J.perm (br1.cons _) ?_; refine J.ap1 (enc := encNV) [v] hΓ (fun a2 c2 h2 o2 => ?_)) | (refine J.perm (br2.cons _) ?_; refine J.ap1 (enc := encNV) [v] hΓ (fun a2 c2 h2 o2 => ?_)) | (refine J.perm (br3.cons _) ?_; refine J.ap1 (enc := encNV) [v] hΓ (fun a2 c2 h2 o2 => ?_)) | (refine J.perm (br4.cons _) ?_; refine J.ap1 (enc := encNV) [v] hΓ (fun a2 c2 h2 o2 => ?_)) | (refine J.perm (br5.cons _) ?_; refine J.ap1 (enc := encNV) [v] hΓ (fun a2 c2 h2 o2 => ?_))) | (refine J.perm br2 ?_; first | (refine J.ap1 (enc := encNV) [v] hΓ (fun a2 c2 h2 o2 => ?_)) | (refine J.perm (br1.cons _) ?_; refine J.ap1 (enc := encNV) [v] hΓ (fun a2 c2 h2 o2 => ?_)) | (refine J.perm (br2.cons _) ?_; refine J.ap1 (enc := encNV) [v] hΓ (fun a2 c2 h2 o2 => ?_)) | (refine J.perm (br3.cons _) ?_; refine J.ap1 (enc := encNV) [v] hΓ (fun a2 c2 h2 o2 => ?_)) | (refine J.perm (br4.cons _) ?_; refine J.ap1 (enc := encNV) [v] hΓ (fun a2 c2 h2 o2 => ?_)) | (refine J.perm (br5.cons _) ?_; refine J.ap1 (enc := encNV) [v] hΓ (fun a2 c2 h2 o2 => ?_))))) | (first | (refine J.o 0 ?_; refine J.ev' hΓ ?_) | refine J.nil ?_ | refine J.kd ?_ | (refine J.o 4 ?_; first | refine J.e0 hΓ ?_ | refine J.e1 hΓ ?_ | refine J.e2 hΓ ?_ | refine J.lT default hΓ ?_ | refine J.lR hΓ ?_) | (refine J.o 3 ?_; first | refine J.iJ hΓ ?_ | refine J.fP hΓ ?_ | refine J.iC hΓ ?_ | refine J.ev' hΓ ?_) | (refine J.o 1 ?_; first | refine J.ad ?_ | refine J.sb ?_ | refine J.ng ?_) | (refine J.o 5 ?_; first | refine J.t0 hΓ ?_ | refine J.t1 hΓ ?_ | refine J.t2 hΓ ?_ | refine J.tT _ default hΓ (fun _ _ => ?_) | refine J.tT1 _ default hΓ (fun _ _ => ?_) | refine J.tT2 _ default hΓ (fun _ _ => ?_)) | (refine J.o 6 ?_; refine J.bx (fun _ => ?_)) | (refine J.o 7 ?_; refine J.al hΓ (fun _ => ?_)) | (refine J.o 8 ?_; refine J.bd hΓ ?_) | (refine J.o 9 ?_; refine J.bl hΓ (fun _ => ?_)) | (refine J.o 10 ?_; refine J.ev' hΓ ?_) | (refine J.o 11 ?_; refine J.ev' hΓ ?_) | refine J.kn ?_) | ((fail_if_success refine J.wt ?_); refine J.gc rfl rfl (fun hc => ?_) (fun hc => ?_) <;> ((try simp only [decide_eq_true_eq, decide_eq_false_iff_not, beq_iff_eq, beq_eq_false_iff_ne, bne_iff_ne, bne_eq_false_iff_eq, Bool.not_eq_true', Bool.not_eq_false', Bool.not_eq_true, Bool.not_eq_false] at hc) <;> first | (first | (exact absurd rfl hc) | (exfalso; omega) | (exact absurd (hc.symm.trans (by assumption : _ = false)) (by decide)) | (exact absurd (hc.symm.trans (by assumption : _ = true)) (by decide))) | skip)))
      | (first | refine JC.seq ?_ | refine JC.region ?_ | refine JC.block ?_ | refine JC.ret ?_ | refine JC.exit ?_ | refine JC.skip ?_ | refine thenK.nn ?_ | refine thenK.r ?_ | refine thenK.x ?_ | refine blockK.nn ?_ | refine blockK.r ?_ | refine blockK.hit rfl ?_ | refine blockK.miss rfl ?_ | refine JC.condT rfl ?_ | refine JC.condF rfl ?_ | (refine JC.cond rfl (fun hc => ?_) (fun hc => ?_) <;> ((try simp only [decide_eq_true_eq, decide_eq_false_iff_not, beq_iff_eq, beq_eq_false_iff_ne, bne_iff_ne, bne_eq_false_iff_eq, Bool.not_eq_true', Bool.not_eq_false', Bool.not_eq_true, Bool.not_eq_false] at hc) <;> first | (first | (exact absurd rfl hc) | (exfalso; omega) | (exact absurd (hc.symm.trans (by assumption : _ = false)) (by decide)) | (exact absurd (hc.symm.trans (by assumption : _ = true)) (by decide))) | skip)) | refine drawK.nn ?_ | refine roundK.nn ?_ | refine roundK.r ?_ | refine roundK.x ?_ | refine loopK.r ?_ | refine loopK.x ?_)
      | ((refine JC.drawN [] [] (by kernel_rfl) (by kernel_rfl) ?_))
      | fail
    all_goals first | (exfalso; omega) | skip
    refine ret2f rfl rfl rfl rfl rfl (fun w1 hw => ⟨_, _, rfl, H.sel (l := [_, _, _]) (M := L) (H.sel (l := [_, _, _, _, _]) (M := L) hw [4, 3, 0, 1]).mg1 [1, 2, 0], a2, c2, h2, hi ++ hv, vs ++ [v], ?_, rfl, ⟨o2, fun u hu => ?_⟩, by rw [hp, List.map_append]; rfl⟩)
    · rw [hp, List.length_map]; exact congrArg (fun t => Value.tuple #[Value.int .i64 t, .int .i64 0]) (by rw [hl2]; omega)
    · rcases List.mem_append.1 hu with hu | hu
      · exact (ins u hu).sub fun y hy => List.mem_append_left _ hy
      · rw [List.mem_singleton.1 hu]; exact hs.sub fun y hy => List.mem_append_right _ hy
  have hmk := mem_g vs k hk
  have cS := fun w hw => sameN_any (vs.getD k default) v (hi ++ hv) ((ins _ hmk).sub fun x hx => List.mem_append_left _ hx) (hs.sub fun x hx => List.mem_append_right _ hx) (okb _ hmk) hll w hw
  rw [idx_drop vs _ k hk] at hidx
  rw [drop_g vs k hk, List.map_cons, List.mem_cons] at hmem
  by_cases he : pnV (vs.getD k default) = pnV v
  · rw [decide_eq_true he] at cS
    rw [if_pos he] at hidx
    have hp : putP (vs.map pnV) (pnV v) = (idxP (vs.map pnV) (pnV v) 0, vs.map pnV) := if_pos (hmem.2 (.inl he.symm))
    repeat' first
      | (refine J.isJ ?_; first | (first | (refine J.o 4 ?_; first | refine J.lR hΓ ?_ (hr := Rd.hd) | refine J.lR hΓ ?_ (hr := Rd.hd.tl.tl) | refine J.lT default hΓ ?_ (hs := hso) (hr := RdH.hd.tl.tl.tl)) | (refine J.fc 26 ?_; refine J.call0 eSameN rfl rfl (fun w hw => cS w (hw.rdH (RdH.append RdH.hd.tl.tl.tl.tl RdH.hd.tl))) ?_)) | (first | (refine J.o 0 ?_; refine J.ev' hΓ ?_) | refine J.nil ?_ | refine J.kd ?_ | (refine J.o 4 ?_; first | refine J.e0 hΓ ?_ | refine J.e1 hΓ ?_ | refine J.e2 hΓ ?_ | refine J.lT default hΓ ?_ | refine J.lR hΓ ?_) | (refine J.o 3 ?_; first | refine J.iJ hΓ ?_ | refine J.fP hΓ ?_ | refine J.iC hΓ ?_ | refine J.ev' hΓ ?_) | (refine J.o 1 ?_; first | refine J.ad ?_ | refine J.sb ?_ | refine J.ng ?_) | (refine J.o 5 ?_; first | refine J.t0 hΓ ?_ | refine J.t1 hΓ ?_ | refine J.t2 hΓ ?_ | refine J.tT _ default hΓ (fun _ _ => ?_) | refine J.tT1 _ default hΓ (fun _ _ => ?_) | refine J.tT2 _ default hΓ (fun _ _ => ?_)) | (refine J.o 6 ?_; refine J.bx (fun _ => ?_)) | (refine J.o 7 ?_; refine J.al hΓ (fun _ => ?_)) | (refine J.o 8 ?_; refine J.bd hΓ ?_) | (refine J.o 9 ?_; refine J.bl hΓ (fun _ => ?_)) | (refine J.o 10 ?_; refine J.ev' hΓ ?_) | (refine J.o 11 ?_; refine J.ev' hΓ ?_) | refine J.kn ?_) | ((fail_if_success refine J.wt ?_); refine J.gc rfl rfl (fun hc => ?_) (fun hc => ?_) <;> ((try simp only [decide_eq_true_eq, decide_eq_false_iff_not, beq_iff_eq, beq_eq_false_iff_ne, bne_iff_ne, bne_eq_false_iff_eq, Bool.not_eq_true', Bool.not_eq_false', Bool.not_eq_true, Bool.not_eq_false] at hc) <;> first | (first | (exact absurd rfl hc) | (exfalso; omega) | (exact absurd (hc.symm.trans (by assumption : _ = false)) (by decide)) | (exact absurd (hc.symm.trans (by assumption : _ = true)) (by decide))) | skip)))
      | (first | refine JC.seq ?_ | refine JC.region ?_ | refine JC.block ?_ | refine JC.ret ?_ | refine JC.exit ?_ | refine JC.skip ?_ | refine thenK.nn ?_ | refine thenK.r ?_ | refine thenK.x ?_ | refine blockK.nn ?_ | refine blockK.r ?_ | refine blockK.hit rfl ?_ | refine blockK.miss rfl ?_ | refine JC.condT rfl ?_ | refine JC.condF rfl ?_ | (refine JC.cond rfl (fun hc => ?_) (fun hc => ?_) <;> ((try simp only [decide_eq_true_eq, decide_eq_false_iff_not, beq_iff_eq, beq_eq_false_iff_ne, bne_iff_ne, bne_eq_false_iff_eq, Bool.not_eq_true', Bool.not_eq_false', Bool.not_eq_true, Bool.not_eq_false] at hc) <;> first | (first | (exact absurd rfl hc) | (exfalso; omega) | (exact absurd (hc.symm.trans (by assumption : _ = false)) (by decide)) | (exact absurd (hc.symm.trans (by assumption : _ = true)) (by decide))) | skip)) | refine drawK.nn ?_ | refine roundK.nn ?_ | refine roundK.r ?_ | refine roundK.x ?_ | refine loopK.r ?_ | refine loopK.x ?_)
      | ((refine JC.drawN [] [] (by kernel_rfl) (by kernel_rfl) ?_))
      | fail
    all_goals first | (exfalso; omega) | skip
    refine ret2f rfl rfl rfl rfl rfl (fun w1 hw => ⟨_, _, rfl, H.sel (l := [_, _, _, _, _]) (M := L) hw [2, 3, 4], a, cap, ho, hi, vs, by rw [hp, hidx], rfl, ⟨ow, ins⟩, by rw [hp]⟩)
  · rw [decide_eq_false he] at cS
    rw [if_neg he] at hidx
    repeat' first
      | (refine J.isJ ?_; first | (first | (refine J.o 4 ?_; first | refine J.lR hΓ ?_ (hr := Rd.hd) | refine J.lR hΓ ?_ (hr := Rd.hd.tl.tl) | refine J.lT default hΓ ?_ (hs := hso) (hr := RdH.hd.tl.tl.tl)) | (refine J.fc 26 ?_; refine J.call0 eSameN rfl rfl (fun w hw => cS w (hw.rdH (RdH.append RdH.hd.tl.tl.tl.tl RdH.hd.tl))) ?_)) | (first | (refine J.o 0 ?_; refine J.ev' hΓ ?_) | refine J.nil ?_ | refine J.kd ?_ | (refine J.o 4 ?_; first | refine J.e0 hΓ ?_ | refine J.e1 hΓ ?_ | refine J.e2 hΓ ?_ | refine J.lT default hΓ ?_ | refine J.lR hΓ ?_) | (refine J.o 3 ?_; first | refine J.iJ hΓ ?_ | refine J.fP hΓ ?_ | refine J.iC hΓ ?_ | refine J.ev' hΓ ?_) | (refine J.o 1 ?_; first | refine J.ad ?_ | refine J.sb ?_ | refine J.ng ?_) | (refine J.o 5 ?_; first | refine J.t0 hΓ ?_ | refine J.t1 hΓ ?_ | refine J.t2 hΓ ?_ | refine J.tT _ default hΓ (fun _ _ => ?_) | refine J.tT1 _ default hΓ (fun _ _ => ?_) | refine J.tT2 _ default hΓ (fun _ _ => ?_)) | (refine J.o 6 ?_; refine J.bx (fun _ => ?_)) | (refine J.o 7 ?_; refine J.al hΓ (fun _ => ?_)) | (refine J.o 8 ?_; refine J.bd hΓ ?_) | (refine J.o 9 ?_; refine J.bl hΓ (fun _ => ?_)) | (refine J.o 10 ?_; refine J.ev' hΓ ?_) | (refine J.o 11 ?_; refine J.ev' hΓ ?_) | refine J.kn ?_) | ((fail_if_success refine J.wt ?_); refine J.gc rfl rfl (fun hc => ?_) (fun hc => ?_) <;> ((try simp only [decide_eq_true_eq, decide_eq_false_iff_not, beq_iff_eq, beq_eq_false_iff_ne, bne_iff_ne, bne_eq_false_iff_eq, Bool.not_eq_true', Bool.not_eq_false', Bool.not_eq_true, Bool.not_eq_false] at hc) <;> first | (first | (exact absurd rfl hc) | (exfalso; omega) | (exact absurd (hc.symm.trans (by assumption : _ = false)) (by decide)) | (exact absurd (hc.symm.trans (by assumption : _ = true)) (by decide))) | skip)))
      | (first | refine JC.seq ?_ | refine JC.region ?_ | refine JC.block ?_ | refine JC.ret ?_ | refine JC.exit ?_ | refine JC.skip ?_ | refine thenK.nn ?_ | refine thenK.r ?_ | refine thenK.x ?_ | refine blockK.nn ?_ | refine blockK.r ?_ | refine blockK.hit rfl ?_ | refine blockK.miss rfl ?_ | refine JC.condT rfl ?_ | refine JC.condF rfl ?_ | (refine JC.cond rfl (fun hc => ?_) (fun hc => ?_) <;> ((try simp only [decide_eq_true_eq, decide_eq_false_iff_not, beq_iff_eq, beq_eq_false_iff_ne, bne_iff_ne, bne_eq_false_iff_eq, Bool.not_eq_true', Bool.not_eq_false', Bool.not_eq_true, Bool.not_eq_false] at hc) <;> first | (first | (exact absurd rfl hc) | (exfalso; omega) | (exact absurd (hc.symm.trans (by assumption : _ = false)) (by decide)) | (exact absurd (hc.symm.trans (by assumption : _ = true)) (by decide))) | skip)) | refine drawK.nn ?_ | refine roundK.nn ?_ | refine roundK.r ?_ | refine roundK.x ?_ | refine loopK.r ?_ | refine loopK.x ?_)
      | ((refine JC.drawN [] [] (by kernel_rfl) (by kernel_rfl) ?_))
      | fail
    all_goals first | (exfalso; omega) | skip
    refine loopK.nn (m - 1) (by omega) (by repeat (first | refine Ag.upd rfl ?_ | exact Ag.hv)) ⟨k + 1, ?_, by omega, hmem.trans ⟨fun h => h.elim (fun e => absurd e.symm he) id, .inr⟩, hidx, rfl⟩
    show Value.int .i64 _ = _; congr 1
theorem add_kind {B : List PN} {kind lt : Int} {l : List Int} (hk : kind = 3 ∨ kind = 4) (D : List Int) (hD : D = inputsR B kind (dropK kind) l) : addP B (kind, lt, l) = (if decR B D (endK kind) = true then putP B (endK kind, 0, []) else if D.length = 0 then putP B (dropK kind, 0, []) else if D.length = 1 then (D.getD 0 default, B) else putP B (kind, 0, sortS D)) := by
  subst hD
  unfold addP
  rw [if_neg (by omega)]
  show (if decR B (inputsR B kind (dropK kind) l) (endK kind) = true then putP B (endK kind, 0, []) else match inputsR B kind (dropK kind) l with
      | [] => putP B (dropK kind, 0, [])
      | [y] => (y, B)
      | _ => putP B (kind, 0, sortS (inputsR B kind (dropK kind) l))) = _
  split
  · rfl
  · generalize inputsR B kind (dropK kind) l = D
    rcases D with _ | ⟨y, _ | ⟨z, t⟩⟩ <;> rfl
theorem br_rb {n : Int} {b cap : Nat} {a : Option Addr} {vs : List NV} {ho hi hl : Heap} (bs : BR vs a cap ho hi) (ob : OkB vs) (hvl : vs.length ≤ 65536) : RBld n b a cap vs ((b, bRO n a vs.length cap) :: ((ho ++ hi) ++ hl)) :=
  ⟨List.mem_cons_self, bs.ow.sl.sub fun x hx => List.mem_cons_of_mem _ (List.mem_append_left _ (List.mem_append_left _ hx)), fun v hv => (bs.ins v hv).sub fun x hx => List.mem_cons_of_mem _ (List.mem_append_left _ (List.mem_append_right _ hx)), ob, hvl⟩
set_option maxHeartbeats 16000000 in
theorem addR_any (N : Int) (hN : 0 ≤ N ∧ N ≤ 128) (v : NV) {w0 w : World} {R : Heap} {L : List Heap} {b cap : Nat} {a : Option Addr} {vs : List NV} {ho hi hl : Heap} (hsl : SlT encI 1 v.a v.l hl) (rl : RdH R L hl) (hvl : v.l.length ≤ 1000000) (hf : formedP (pnV v) N vs.length = true) (bs : BR vs a cap ho hi) (op : OkP (vs.map pnV)) (hv65 : vs.length < 65536) (hw : H w0 R (bLR N b a vs cap ho hi ++ L) w) :
    Calls Tryd.prog 22 #[.pointer (some ⟨b, 0, none⟩), .agg ⟨encNV v⟩] w fun e w' => ∃ v' L', e = .returned v' ∧ H w0 R L' w' ∧ ∃ a' cap' ho' hi' vs', v' = .tuple #[.int .i64 (addP (vs.map pnV) (pnV v)).1, .int .i64 0] ∧ L' = bLR N b a' vs' cap' ho' hi' ++ L ∧ BR vs' a' cap' ho' hi' ∧ vs'.map pnV = (addP (vs.map pnV) (pnV v)).2 := by
  have cF := fun w hw => formedR_any v hl hsl hvl N vs.length hN w hw
  rw [hf] at cF
  have hlen : (vs.map pnV).length = vs.length := List.length_map ..
  have hf' := hf
  rw [← hlen] at hf'
  have okb := op.okB (by omega)
  have okn : ∀ u, u ∈ vs → u.l.length ≤ 1000000 := fun u hu => (okb.ok u hu).n
  unfold bLR at hw
  simp only [List.cons_append, List.nil_append] at hw
  by_cases hk : v.kind = 3 ∨ v.kind = 4
  case neg =>
    have hA : addP (vs.map pnV) (pnV v) = putP (vs.map pnV) (v.kind, v.lit, []) := add_const (x := pnV v) ⟨fun e => hk (.inl e), fun e => hk (.inr e)⟩
    rw [hA]
    have hk3 : v.kind < 3 := by
      rcases formed_kinds hf with e | e | ⟨e, _⟩ | e | e <;> (have e : v.kind = _ := e) <;> omega
    refine calls_in Tryd.func22 Tryd.ntmps22 rfl rfl (hw) ?_
    unfold bRO
    repeat' first
      | (refine J.isJ ?_; first | (first | (refine J.o 4 ?_; first | refine J.lR hΓ ?_ (hr := Rd.hd) | refine J.lR hΓ ?_ (hr := Rd.hd.tl)) | (refine J.fc 43 ?_; refine J.call0 eFormR rfl rfl (fun w hw => cF w (hw.rdH rl.tl.tl.tl.tl)) ?_) | (refine J.fc 44 ?_; refine J.callx ePutR rfl rfl (fun w hw => putR_any ⟨v.kind, v.lit, none, 0, []⟩ bs (lit_sl none) (Nat.zero_le _) okn hv65 (H.sel (l := [_, _, _, _, _]) (M := L) hw.nilF [0, 2, 3, 4])) ?_; rintro _ _ ⟨a2, c2, ho2, hi2, vs2, rfl, rfl, bs2, e2⟩)) | (first | (refine J.o 0 ?_; refine J.ev' hΓ ?_) | refine J.nil ?_ | refine J.kd ?_ | (refine J.o 4 ?_; first | refine J.e0 hΓ ?_ | refine J.e1 hΓ ?_ | refine J.e2 hΓ ?_ | refine J.lT default hΓ ?_ | refine J.lR hΓ ?_) | (refine J.o 3 ?_; first | refine J.iJ hΓ ?_ | refine J.fP hΓ ?_ | refine J.iC hΓ ?_ | refine J.ev' hΓ ?_) | (refine J.o 1 ?_; first | refine J.ad ?_ | refine J.sb ?_ | refine J.ng ?_) | (refine J.o 5 ?_; first | refine J.t0 hΓ ?_ | refine J.t1 hΓ ?_ | refine J.t2 hΓ ?_ | refine J.tT _ default hΓ (fun _ _ => ?_) | refine J.tT1 _ default hΓ (fun _ _ => ?_) | refine J.tT2 _ default hΓ (fun _ _ => ?_)) | (refine J.o 6 ?_; refine J.bx (fun _ => ?_)) | (refine J.o 7 ?_; refine J.al hΓ (fun _ => ?_)) | (refine J.o 8 ?_; refine J.bd hΓ ?_) | (refine J.o 9 ?_; refine J.bl hΓ (fun _ => ?_)) | (refine J.o 10 ?_; refine J.ev' hΓ ?_) | (refine J.o 11 ?_; refine J.ev' hΓ ?_) | refine J.kn ?_) | ((fail_if_success refine J.wt ?_); refine J.gc rfl rfl (fun hc => ?_) (fun hc => ?_) <;> ((try simp only [decide_eq_true_eq, decide_eq_false_iff_not, beq_iff_eq, beq_eq_false_iff_ne, bne_iff_ne, bne_eq_false_iff_eq, Bool.not_eq_true', Bool.not_eq_false', Bool.not_eq_true, Bool.not_eq_false] at hc) <;> first | (first | (exact absurd rfl hc) | (exfalso; omega) | (exact absurd (hc.symm.trans (by assumption : _ = false)) (by decide)) | (exact absurd (hc.symm.trans (by assumption : _ = true)) (by decide))) | skip)))
      | (first | refine JC.seq ?_ | refine JC.region ?_ | refine JC.block ?_ | refine JC.ret ?_ | refine JC.exit ?_ | refine JC.skip ?_ | refine thenK.nn ?_ | refine thenK.r ?_ | refine thenK.x ?_ | refine blockK.nn ?_ | refine blockK.r ?_ | refine blockK.hit rfl ?_ | refine blockK.miss rfl ?_ | refine JC.condT rfl ?_ | refine JC.condF rfl ?_ | (refine JC.cond rfl (fun hc => ?_) (fun hc => ?_) <;> ((try simp only [decide_eq_true_eq, decide_eq_false_iff_not, beq_iff_eq, beq_eq_false_iff_ne, bne_iff_ne, bne_eq_false_iff_eq, Bool.not_eq_true', Bool.not_eq_false', Bool.not_eq_true, Bool.not_eq_false] at hc) <;> first | (first | (exact absurd rfl hc) | (exfalso; omega) | (exact absurd (hc.symm.trans (by assumption : _ = false)) (by decide)) | (exact absurd (hc.symm.trans (by assumption : _ = true)) (by decide))) | skip)) | refine drawK.nn ?_ | refine roundK.nn ?_ | refine roundK.r ?_ | refine roundK.x ?_ | refine loopK.r ?_ | refine loopK.x ?_)
      | ((refine JC.drawN [] [] (by kernel_rfl) (by kernel_rfl) ?_))
      | fail
    all_goals first | (exfalso; omega) | skip
    exact ret2f rfl rfl rfl rfl rfl (fun w1 hw => ⟨_, _, rfl, hw, a2, c2, ho2, hi2, vs2, rfl, rfl, bs2, e2⟩)
  have hrg : ∀ i, i ∈ v.l → 0 ≤ i ∧ i < vs.length := formed_rng hf
  have gi : ∀ D, D = inputsR (vs.map pnV) v.kind (dropK v.kind) v.l → (∀ i, i ∈ D → 0 ≤ i ∧ i < vs.length) ∧ D.length ≤ 65536 := fun D hD => by
    have ag := agree_all (B := vs.map pnV) (drop := dropK v.kind) (end_ := endK v.kind) (by unfold dropK endK; split <;> decide) (by unfold dropK; split <;> decide) (lit_ne op) (flatP (vs.map pnV) v.kind v.l)
    have hr : ∀ i, i ∈ D → 0 ≤ i ∧ i < vs.length := fun i hi => by
      subst hD
      have := flat_rng op v.kind (formed_rng hf') i ((ag.mem i).1 hi).1
      rw [hlen] at this
      exact this
    have hn : D.Nodup := hD ▸ ag.nd
    refine ⟨hr, ?_⟩
    have h1 := sortS_len D
    have h2 := asc_len (sortS D) 0 vs.length (by omega) (sorted_lt (sortS_sorted D) ((sortS_perm D).nodup_iff.2 hn)) fun i hi => hr i ((sortS_perm D).mem_iff.1 hi)
    omega
  have hrb : RBld N b a cap vs ((b, bRO N a vs.length cap) :: ((ho ++ hi) ++ hl)) := br_rb bs okb (by omega)
  have hA0 := add_kind (B := vs.map pnV) (kind := v.kind) (lt := v.lit) (l := v.l) hk
  have hpn : pnV v = (v.kind, v.lit, v.l) := rfl
  have hk3 : ¬ v.kind < 3 := by omega
  have hsub : ∀ x, x ∈ hl → x ∈ (b, bRO N a vs.length cap) :: ((ho ++ hi) ++ hl) := fun x hx => List.mem_cons_of_mem _ (List.mem_append_right _ hx)
  have cI := fun w hw => inputsR_any hrb v.kind (dropK v.kind) v.a v.c v.l (hsl.sub hsub) hvl hrg w hw
  generalize inputsR (vs.map pnV) v.kind (dropK v.kind) v.l = D at gi hA0 cI
  obtain ⟨hDr, hDl⟩ := gi D rfl
  have hA := hA0 D rfl
  clear hA0 gi
  rw [hpn, hA]
  have hln := sortS_len D
  have c0 : ∀ (k : Int) (b : Nat), True := fun _ _ => trivial
  unfold bRO at hrb cI
  rcases hk with hk | hk
  all_goals first | (have hd : dropK v.kind = 1 := by unfold dropK; rw [hk]; rfl) | (have hd : dropK v.kind = 0 := by unfold dropK; rw [hk]; rfl)
  all_goals first | (have he : endK v.kind = 0 := by unfold endK; rw [hk]; rfl) | (have he : endK v.kind = 1 := by unfold endK; rw [hk]; rfl)
  all_goals (
    rw [hd] at cI
    rw [hd, he]
    have cD := fun (ao : Option Addr) (co : Nat) (hO : Heap) (oO : SlT encI 1 ao D hO) (w : World) (hw : Holds ((b, bRO N a vs.length cap) :: ((ho ++ hi) ++ hO)) w) => decR_any (br_rb bs okb (by omega)) (endK v.kind) ao co D (oO.sub fun x hx => List.mem_cons_of_mem _ (List.mem_append_right _ hx)) (by omega) hDr w hw
    rw [he] at cD
    unfold bRO at cD
    refine calls_in Tryd.func22 Tryd.ntmps22 rfl rfl (hw) ?_
    unfold bRO
    repeat' first
      | (refine J.isJ ?_; first | (first | (refine J.o 4 ?_; first | refine J.lR hΓ ?_ (hr := Rd.hd) | refine J.lR hΓ ?_ (hr := Rd.hd.tl)) | (refine J.fc 43 ?_; refine J.call0 eFormR rfl rfl (fun w hw => cF w (hw.rdH rl.tl.tl.tl.tl)) ?_) | (refine J.fc 45 ?_; refine J.call1 eInpR rfl rfl (fun w hw => cI w (hw.rdH (rdc Rd.hd.tl (RdH.append (RdH.append RdH.hd.tl.tl RdH.hd.tl.tl.tl) rl.tl.tl.tl.tl)))) ?_; rintro _ hO ⟨ao, co, rfl, oO⟩)) | (first | (refine J.o 0 ?_; refine J.ev' hΓ ?_) | refine J.nil ?_ | refine J.kd ?_ | (refine J.o 4 ?_; first | refine J.e0 hΓ ?_ | refine J.e1 hΓ ?_ | refine J.e2 hΓ ?_ | refine J.lT default hΓ ?_ | refine J.lR hΓ ?_) | (refine J.o 3 ?_; first | refine J.iJ hΓ ?_ | refine J.fP hΓ ?_ | refine J.iC hΓ ?_ | refine J.ev' hΓ ?_) | (refine J.o 1 ?_; first | refine J.ad ?_ | refine J.sb ?_ | refine J.ng ?_) | (refine J.o 5 ?_; first | refine J.t0 hΓ ?_ | refine J.t1 hΓ ?_ | refine J.t2 hΓ ?_ | refine J.tT _ default hΓ (fun _ _ => ?_) | refine J.tT1 _ default hΓ (fun _ _ => ?_) | refine J.tT2 _ default hΓ (fun _ _ => ?_)) | (refine J.o 6 ?_; refine J.bx (fun _ => ?_)) | (refine J.o 7 ?_; refine J.al hΓ (fun _ => ?_)) | (refine J.o 8 ?_; refine J.bd hΓ ?_) | (refine J.o 9 ?_; refine J.bl hΓ (fun _ => ?_)) | (refine J.o 10 ?_; refine J.ev' hΓ ?_) | (refine J.o 11 ?_; refine J.ev' hΓ ?_) | refine J.kn ?_) | ((fail_if_success refine J.wt ?_); refine J.gc rfl rfl (fun hc => ?_) (fun hc => ?_) <;> ((try simp only [decide_eq_true_eq, decide_eq_false_iff_not, beq_iff_eq, beq_eq_false_iff_ne, bne_iff_ne, bne_eq_false_iff_eq, Bool.not_eq_true', Bool.not_eq_false', Bool.not_eq_true, Bool.not_eq_false] at hc) <;> first | (first | (exact absurd rfl hc) | (exfalso; omega) | (exact absurd (hc.symm.trans (by assumption : _ = false)) (by decide)) | (exact absurd (hc.symm.trans (by assumption : _ = true)) (by decide))) | skip)))
      | (first | refine JC.seq ?_ | refine JC.region ?_ | refine JC.block ?_ | refine JC.ret ?_ | refine JC.exit ?_ | refine JC.skip ?_ | refine thenK.nn ?_ | refine thenK.r ?_ | refine thenK.x ?_ | refine blockK.nn ?_ | refine blockK.r ?_ | refine blockK.hit rfl ?_ | refine blockK.miss rfl ?_ | refine JC.condT rfl ?_ | refine JC.condF rfl ?_ | (refine JC.cond rfl (fun hc => ?_) (fun hc => ?_) <;> ((try simp only [decide_eq_true_eq, decide_eq_false_iff_not, beq_iff_eq, beq_eq_false_iff_ne, bne_iff_ne, bne_eq_false_iff_eq, Bool.not_eq_true', Bool.not_eq_false', Bool.not_eq_true, Bool.not_eq_false] at hc) <;> first | (first | (exact absurd rfl hc) | (exfalso; omega) | (exact absurd (hc.symm.trans (by assumption : _ = false)) (by decide)) | (exact absurd (hc.symm.trans (by assumption : _ = true)) (by decide))) | skip)) | refine drawK.nn ?_ | refine roundK.nn ?_ | refine roundK.r ?_ | refine roundK.x ?_ | refine loopK.r ?_ | refine loopK.x ?_)
      | ((refine JC.drawN [] [] (by kernel_rfl) (by kernel_rfl) ?_))
      | fail
    all_goals first | (exfalso; omega) | skip
    have cDD := cD ao co hO oO.sl
    have hOs := oO.sl
    have rD : ∀ (x : Heap) (y : Heap), RdH R (x :: y :: [(b, .cells ⟨[.int .i64 N, .slice a vs.length cap]⟩ 45 (0, 0))] :: ho :: hi :: L) ((b, .cells ⟨[.int .i64 N, .slice a vs.length cap]⟩ 45 (0, 0)) :: ((ho ++ hi) ++ x)) := fun x y => rdc Rd.hd.tl.tl (RdH.append (RdH.append RdH.hd.tl.tl.tl RdH.hd.tl.tl.tl.tl) RdH.hd)
    have cS := fun w hw => sortR_any ao co D hO hOs (by omega) w hw
    generalize hdec : decR (vs.map pnV) D _ = bd at cDD ⊢
    cases bd
    · rw [if_neg (by decide)]
      repeat' first
        | (refine J.isJ ?_; first | (first | (refine J.o 4 ?_; refine J.lT default hΓ ?_ (hs := hOs) (hr := RdH.hd)) | (refine J.fc 46 ?_; refine J.call0 eDecR rfl rfl (fun w hw => cDD w (hw.rdH (rD _ _))) ?_) | (refine J.fc 47 ?_; refine J.call1 eSortR rfl rfl (fun w hw => cS w (hw.rdH RdH.hd)) ?_; rintro _ hS ⟨aS, kS, rfl, oS⟩) | (refine J.fc 44 ?_; (first | refine J.callx ePutR rfl rfl (fun w hw => putR_any ⟨v.kind, 0, aS, kS, sortS D⟩ bs oS.sl (by show (sortS D).length ≤ 1000000; omega) okn hv65 (H.sel (l := [_, _, _, _, _, _]) (M := L) hw [0, 3, 4, 5])) ?_ | refine J.callx ePutR rfl rfl (fun w hw => putR_any ⟨0, 0, none, 0, []⟩ bs (lit_sl none) (Nat.zero_le _) okn hv65 (H.sel (l := [_, _, _, _, _, _]) (M := L) hw.nilF [0, 3, 4, 5])) ?_ | refine J.callx ePutR rfl rfl (fun w hw => putR_any ⟨1, 0, none, 0, []⟩ bs (lit_sl none) (Nat.zero_le _) okn hv65 (H.sel (l := [_, _, _, _, _, _]) (M := L) hw.nilF [0, 3, 4, 5])) ?_); rintro _ _ ⟨a2, c2, ho2, hi2, vs2, rfl, rfl, bs2, e2⟩)) | (first | (refine J.o 0 ?_; refine J.ev' hΓ ?_) | refine J.nil ?_ | refine J.kd ?_ | (refine J.o 4 ?_; first | refine J.e0 hΓ ?_ | refine J.e1 hΓ ?_ | refine J.e2 hΓ ?_ | refine J.lT default hΓ ?_ | refine J.lR hΓ ?_) | (refine J.o 3 ?_; first | refine J.iJ hΓ ?_ | refine J.fP hΓ ?_ | refine J.iC hΓ ?_ | refine J.ev' hΓ ?_) | (refine J.o 1 ?_; first | refine J.ad ?_ | refine J.sb ?_ | refine J.ng ?_) | (refine J.o 5 ?_; first | refine J.t0 hΓ ?_ | refine J.t1 hΓ ?_ | refine J.t2 hΓ ?_ | refine J.tT _ default hΓ (fun _ _ => ?_) | refine J.tT1 _ default hΓ (fun _ _ => ?_) | refine J.tT2 _ default hΓ (fun _ _ => ?_)) | (refine J.o 6 ?_; refine J.bx (fun _ => ?_)) | (refine J.o 7 ?_; refine J.al hΓ (fun _ => ?_)) | (refine J.o 8 ?_; refine J.bd hΓ ?_) | (refine J.o 9 ?_; refine J.bl hΓ (fun _ => ?_)) | (refine J.o 10 ?_; refine J.ev' hΓ ?_) | (refine J.o 11 ?_; refine J.ev' hΓ ?_) | refine J.kn ?_) | ((fail_if_success refine J.wt ?_); refine J.gc rfl rfl (fun hc => ?_) (fun hc => ?_) <;> ((try simp only [decide_eq_true_eq, decide_eq_false_iff_not, beq_iff_eq, beq_eq_false_iff_ne, bne_iff_ne, bne_eq_false_iff_eq, Bool.not_eq_true', Bool.not_eq_false', Bool.not_eq_true, Bool.not_eq_false] at hc) <;> first | (first | (exact absurd rfl hc) | (exfalso; omega) | (exact absurd (hc.symm.trans (by assumption : _ = false)) (by decide)) | (exact absurd (hc.symm.trans (by assumption : _ = true)) (by decide))) | skip)))
        | (first | refine JC.seq ?_ | refine JC.region ?_ | refine JC.block ?_ | refine JC.ret ?_ | refine JC.exit ?_ | refine JC.skip ?_ | refine thenK.nn ?_ | refine thenK.r ?_ | refine thenK.x ?_ | refine blockK.nn ?_ | refine blockK.r ?_ | refine blockK.hit rfl ?_ | refine blockK.miss rfl ?_ | refine JC.condT rfl ?_ | refine JC.condF rfl ?_ | (refine JC.cond rfl (fun hc => ?_) (fun hc => ?_) <;> ((try simp only [decide_eq_true_eq, decide_eq_false_iff_not, beq_iff_eq, beq_eq_false_iff_ne, bne_iff_ne, bne_eq_false_iff_eq, Bool.not_eq_true', Bool.not_eq_false', Bool.not_eq_true, Bool.not_eq_false] at hc) <;> first | (first | (exact absurd rfl hc) | (exfalso; omega) | (exact absurd (hc.symm.trans (by assumption : _ = false)) (by decide)) | (exact absurd (hc.symm.trans (by assumption : _ = true)) (by decide))) | skip)) | refine drawK.nn ?_ | refine roundK.nn ?_ | refine roundK.r ?_ | refine roundK.x ?_ | refine loopK.r ?_ | refine loopK.x ?_)
        | ((refine JC.drawN [4] [6] (by kernel_rfl) (by kernel_rfl) ?_))
        | fail
      all_goals first | (exfalso; omega) | skip
      · rw [if_pos (by omega : D.length = 0)]
        exact ret2f rfl rfl rfl rfl rfl (fun w1 hw => ⟨_, _, rfl, hw, a2, c2, ho2, hi2, vs2, rfl, rfl, bs2, e2⟩)
      · rw [if_neg (by omega : ¬ D.length = 0), if_pos (by omega : D.length = 1)]
        exact ret2f rfl rfl rfl rfl rfl (fun w1 hw => ⟨_, _, rfl, H.sel (l := [_, _, _, _, _]) (M := L) hw [2, 3, 4], a, cap, ho, hi, vs, rfl, rfl, bs, rfl⟩)
      · rw [if_neg (by omega : ¬ D.length = 0), if_neg (by omega : ¬ D.length = 1)]
        exact ret2f rfl rfl rfl rfl rfl (fun w1 hw => ⟨_, _, rfl, hw, a2, c2, ho2, hi2, vs2, rfl, rfl, bs2, e2⟩)
    · rw [if_pos rfl]
      repeat' first
        | (refine J.isJ ?_; first | (first | (refine J.o 4 ?_; refine J.lT default hΓ ?_ (hs := hOs) (hr := RdH.hd)) | (refine J.fc 46 ?_; refine J.call0 eDecR rfl rfl (fun w hw => cDD w (hw.rdH (rD _ _))) ?_) | (refine J.fc 47 ?_; refine J.call1 eSortR rfl rfl (fun w hw => cS w (hw.rdH RdH.hd)) ?_; rintro _ hS ⟨aS, kS, rfl, oS⟩) | (refine J.fc 44 ?_; (first | refine J.callx ePutR rfl rfl (fun w hw => putR_any ⟨v.kind, 0, aS, kS, sortS D⟩ bs oS.sl (by show (sortS D).length ≤ 1000000; omega) okn hv65 (H.sel (l := [_, _, _, _, _, _]) (M := L) hw [0, 3, 4, 5])) ?_ | refine J.callx ePutR rfl rfl (fun w hw => putR_any ⟨0, 0, none, 0, []⟩ bs (lit_sl none) (Nat.zero_le _) okn hv65 (H.sel (l := [_, _, _, _, _, _]) (M := L) hw.nilF [0, 3, 4, 5])) ?_ | refine J.callx ePutR rfl rfl (fun w hw => putR_any ⟨1, 0, none, 0, []⟩ bs (lit_sl none) (Nat.zero_le _) okn hv65 (H.sel (l := [_, _, _, _, _, _]) (M := L) hw.nilF [0, 3, 4, 5])) ?_); rintro _ _ ⟨a2, c2, ho2, hi2, vs2, rfl, rfl, bs2, e2⟩)) | (first | (refine J.o 0 ?_; refine J.ev' hΓ ?_) | refine J.nil ?_ | refine J.kd ?_ | (refine J.o 4 ?_; first | refine J.e0 hΓ ?_ | refine J.e1 hΓ ?_ | refine J.e2 hΓ ?_ | refine J.lT default hΓ ?_ | refine J.lR hΓ ?_) | (refine J.o 3 ?_; first | refine J.iJ hΓ ?_ | refine J.fP hΓ ?_ | refine J.iC hΓ ?_ | refine J.ev' hΓ ?_) | (refine J.o 1 ?_; first | refine J.ad ?_ | refine J.sb ?_ | refine J.ng ?_) | (refine J.o 5 ?_; first | refine J.t0 hΓ ?_ | refine J.t1 hΓ ?_ | refine J.t2 hΓ ?_ | refine J.tT _ default hΓ (fun _ _ => ?_) | refine J.tT1 _ default hΓ (fun _ _ => ?_) | refine J.tT2 _ default hΓ (fun _ _ => ?_)) | (refine J.o 6 ?_; refine J.bx (fun _ => ?_)) | (refine J.o 7 ?_; refine J.al hΓ (fun _ => ?_)) | (refine J.o 8 ?_; refine J.bd hΓ ?_) | (refine J.o 9 ?_; refine J.bl hΓ (fun _ => ?_)) | (refine J.o 10 ?_; refine J.ev' hΓ ?_) | (refine J.o 11 ?_; refine J.ev' hΓ ?_) | refine J.kn ?_) | ((fail_if_success refine J.wt ?_); refine J.gc rfl rfl (fun hc => ?_) (fun hc => ?_) <;> ((try simp only [decide_eq_true_eq, decide_eq_false_iff_not, beq_iff_eq, beq_eq_false_iff_ne, bne_iff_ne, bne_eq_false_iff_eq, Bool.not_eq_true', Bool.not_eq_false', Bool.not_eq_true, Bool.not_eq_false] at hc) <;> first | (first | (exact absurd rfl hc) | (exfalso; omega) | (exact absurd (hc.symm.trans (by assumption : _ = false)) (by decide)) | (exact absurd (hc.symm.trans (by assumption : _ = true)) (by decide))) | skip)))
        | (first | refine JC.seq ?_ | refine JC.region ?_ | refine JC.block ?_ | refine JC.ret ?_ | refine JC.exit ?_ | refine JC.skip ?_ | refine thenK.nn ?_ | refine thenK.r ?_ | refine thenK.x ?_ | refine blockK.nn ?_ | refine blockK.r ?_ | refine blockK.hit rfl ?_ | refine blockK.miss rfl ?_ | refine JC.condT rfl ?_ | refine JC.condF rfl ?_ | (refine JC.cond rfl (fun hc => ?_) (fun hc => ?_) <;> ((try simp only [decide_eq_true_eq, decide_eq_false_iff_not, beq_iff_eq, beq_eq_false_iff_ne, bne_iff_ne, bne_eq_false_iff_eq, Bool.not_eq_true', Bool.not_eq_false', Bool.not_eq_true, Bool.not_eq_false] at hc) <;> first | (first | (exact absurd rfl hc) | (exfalso; omega) | (exact absurd (hc.symm.trans (by assumption : _ = false)) (by decide)) | (exact absurd (hc.symm.trans (by assumption : _ = true)) (by decide))) | skip)) | refine drawK.nn ?_ | refine roundK.nn ?_ | refine roundK.r ?_ | refine roundK.x ?_ | refine loopK.r ?_ | refine loopK.x ?_)
        | ((refine JC.drawN [4] [6] (by kernel_rfl) (by kernel_rfl) ?_))
        | fail
      all_goals first | (exfalso; omega) | skip
      exact ret2f rfl rfl rfl rfl rfl (fun w1 hw => ⟨_, _, rfl, hw, a2, c2, ho2, hi2, vs2, rfl, rfl, bs2, e2⟩))
end Go.Proofs.YtncnpmgohhgmfaaDoor
