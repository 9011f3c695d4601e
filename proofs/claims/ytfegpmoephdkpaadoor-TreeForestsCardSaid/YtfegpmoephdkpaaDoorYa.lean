/- The document's sets (chapter 3): none, set, Of, List, With, All, Sub, Subsets: what they compute. -/
import Derived.Test.YtfegpmoephdkpaaDoorE
import Derived.Test.YtfegpmoephdkpaaDoorO
import Derived.Test.YtfegpmoephdkpaaDoorCxS
namespace Go.Proofs.YtfegpmoephdkpaaDoor
open Go Go.Cx Go.RowKit
set_option linter.unusedVariables false
set_option linter.unusedSimpArgs false
set_option maxHeartbeats 4000000
attribute [local irreducible] J JC thenK blockK loopK roundK drawK retK QW Qt pel List.set Calls

def encBo (b : Bool) : List Value := [.bool b]
theorem hasB_rng {s : Nat × Nat} {u : Int} (h : hasB s u = true) : 1 ≤ u ∧ u ≤ 128 := by
  unfold hasB at h
  split at h
  · omega
  · split at h
    · omega
    · cases h
theorem set_ext {a b : Nat × Nat} (ha : okS a) (hb : okS b) (h : ∀ u : Int, 1 ≤ u → u ≤ 128 → hasB a u = hasB b u) : a = b := by
  obtain ⟨a1, a2⟩ := a
  obtain ⟨b1, b2⟩ := b
  have big : ∀ (x : Nat) (i : Nat), x < 2 ^ 64 → 64 ≤ i → x.testBit i = false := fun x i hx hi => Nat.testBit_lt_two_pow (Nat.lt_of_lt_of_le hx (Nat.pow_le_pow_right (by omega) hi))
  congr 1
  · apply Nat.eq_of_testBit_eq
    intro i
    by_cases hi : i < 64
    · have := h ((i : Int) + 1) (by omega) (by omega)
      unfold hasB at this
      rw [if_pos (by omega), if_pos (by omega)] at this
      have e : ((i : Int) + 1 - 1).toNat = i := by omega
      rw [e] at this
      exact this
    · rw [big a1 i ha.1 (by omega), big b1 i hb.1 (by omega)]
  · apply Nat.eq_of_testBit_eq
    intro i
    by_cases hi : i < 64
    · have := h ((i : Int) + 65) (by omega) (by omega)
      unfold hasB at this
      rw [if_neg (by omega), if_pos (by omega), if_neg (by omega), if_pos (by omega)] at this
      have e : ((i : Int) + 65 - 65).toNat = i := by omega
      rw [e] at this
      exact this
    · rw [big a2 i ha.2 (by omega), big b2 i hb.2 (by omega)]

def setL : List Bool → Int → Nat × Nat → Nat × Nat
  | [], _, s => s
  | b :: bs, v, s => setL bs (v + 1) (if b then withS s v else s)
def setP (l : List Bool) : Nat × Nat := setL (l.drop 1) 1 (0, 0)
theorem setL_ok : ∀ (l : List Bool) (v : Int) (s : Nat × Nat), okS s → okS (setL l v s)
  | [], _, s, h => h
  | b :: bs, v, s, h => by
    rw [setL]
    refine setL_ok bs (v + 1) _ ?_
    split
    · exact ok_with h v
    · exact h
theorem setP_ok (l : List Bool) : okS (setP l) := setL_ok _ _ _ ⟨by decide, by decide⟩
theorem setL_has : ∀ (l : List Bool) (v : Int) (s : Nat × Nat) (u : Int), 1 ≤ v → v + l.length ≤ 129 → (hasB (setL l v s) u = true ↔ hasB s u = true ∨ (v ≤ u ∧ u < v + l.length ∧ l.getD (u - v).toNat false = true))
  | [], v, s, u, h0, h1 => by
    rw [setL]
    constructor
    · exact fun h => .inl h
    · rintro (h | ⟨_, h, _⟩)
      · exact h
      · simp at h; omega
  | b :: bs, v, s, u, h0, h1 => by
    rw [List.length_cons] at h1
    rw [setL, setL_has bs (v + 1) _ u (by omega) (by omega)]
    have hg : ∀ w : Int, v + 1 ≤ w → (b :: bs).getD (w - v).toNat false = bs.getD (w - (v + 1)).toNat false := fun w hw => by
      have : (w - v).toNat = (w - (v + 1)).toNat + 1 := by omega
      rw [this]; rfl
    have hw := has_with s v u ⟨h0, by omega⟩
    rw [List.length_cons]
    constructor
    · rintro (h | ⟨h2, h3, h4⟩)
      · cases b with
        | true =>
          rcases hw.1 h with h | rfl
          · exact .inl h
          · exact .inr ⟨Int.le_refl _, by omega, by rw [Int.sub_self]; rfl⟩
        | false => exact .inl h
      · exact .inr ⟨by omega, by omega, by rw [hg u (by omega)]; exact h4⟩
    · rintro (h | ⟨h2, h3, h4⟩)
      · left
        cases b with
        | true => exact hw.2 (.inl h)
        | false => exact h
      · by_cases hu : u = v
        · subst hu
          rw [Int.sub_self] at h4
          have hb : b = true := h4
          subst hb
          exact .inl (hw.2 (.inr rfl))
        · rw [hg u (by omega)] at h4
          exact .inr ⟨by omega, by omega, h4⟩
theorem setP_has (l : List Bool) (hl : l.length = 129) (u : Int) : hasB (setP l) u = true ↔ 1 ≤ u ∧ u ≤ 128 ∧ l.getD u.toNat false = true := by
  unfold setP
  have hdl : (l.drop 1).length = 128 := by rw [List.length_drop, hl]
  rw [setL_has _ _ _ _ (by omega) (by rw [hdl]; omega), hdl]
  have h0 : hasB (0, 0) u = false := by unfold hasB; simp
  rw [h0]
  constructor
  · rintro (h | ⟨h1, h2, h3⟩)
    · cases h
    · refine ⟨h1, by omega, ?_⟩
      rw [List.getD_eq_getElem?_getD, List.getElem?_drop] at h3
      rw [List.getD_eq_getElem?_getD]
      have : 1 + (u - 1).toNat = u.toNat := by omega
      rw [this] at h3
      exact h3
  · rintro ⟨h1, h2, h3⟩
    refine .inr ⟨h1, by omega, ?_⟩
    rw [List.getD_eq_getElem?_getD, List.getElem?_drop]
    rw [List.getD_eq_getElem?_getD] at h3
    have : 1 + (u - 1).toNat = u.toNat := by omega
    rw [this]
    exact h3

theorem eNone3 : Entr Tryd.prog 68 := Entr.of Tryd.func68 rfl rfl
theorem eSet3 : Entr Tryd.prog 69 := Entr.of Tryd.func69 rfl rfl
theorem none_any (w : World) : Calls Tryd.prog 68 #[] w (Gives (fun v h => ∃ b, v = .slice (some ⟨b, 0, none⟩) 129 129 ∧ OwT encBo 1 4 (some ⟨b, 0, none⟩) 129 (List.replicate 129 false) h) w) := by
  refine calls_of_JC (R := []) Tryd.func68 Tryd.ntmps68 rfl rfl (Holds.nil _) ?_
  repeat' first
    | (refine J.isJ ?_; first | (first | (refine J.o 0 ?_; refine J.ev' hΓ ?_) | refine J.nil ?_ | refine J.kd ?_ | (refine J.o 4 ?_; first | refine J.e0 hΓ ?_ | refine J.lT default hΓ ?_ | refine J.e1 hΓ ?_ | refine J.e2 hΓ ?_ | refine J.lR hΓ ?_) | (refine J.o 3 ?_; first | refine J.iA hΓ ?_ | refine J.iJ hΓ ?_ | refine J.fP hΓ ?_ | refine J.iC hΓ ?_ | refine J.ev' hΓ ?_) | (refine J.o 1 ?_; first | refine J.ad ?_ | refine J.ct ?_ | refine J.sb ?_ | refine J.mu ?_ | refine J.ng ?_ | refine J.qu ?_ | refine J.rm ?_ | refine J.s1 ?_ | refine J.sr ?_ | refine J.aW ?_ | refine J.oW ?_ | refine J.nW ?_) | (refine J.o 2 ?_; refine J.cv _ hΓ ?_) | (refine J.o 5 ?_; first | refine J.t0 hΓ ?_ | refine J.t1 hΓ ?_ | refine J.t2 hΓ ?_ | refine J.tT _ default hΓ (fun _ _ => ?_) | refine J.tT1 _ default hΓ (fun _ _ => ?_) | refine J.tT2 _ default hΓ (fun _ _ => ?_) | refine J.tT3 _ default hΓ (fun _ _ => ?_)) | (refine J.o 6 ?_; refine J.bx (fun _ => ?_)) | (refine J.o 7 ?_; refine J.al hΓ (fun _ => ?_)) | (refine J.o 8 ?_; refine J.bd hΓ ?_) | (refine J.o 9 ?_; refine J.bl hΓ (fun _ => ?_)) | (refine J.o 10 ?_; first | refine J.ls hΓ ?_ | refine J.ev' hΓ ?_) | (refine J.o 11 ?_; first | refine J.eS ?_ | refine J.xS ?_ | refine J.ev' hΓ ?_ | refine J.nT hΓ ?_) | (refine J.o 12 ?_; refine J.ix hΓ ?_) | (refine J.o 13 ?_; first | refine J.sL hΓ ?_ | refine J.sH hΓ ?_) | (refine J.o 14 ?_; refine J.mf hΓ ?_) | refine J.kn ?_) | ((refine J.make (enc := encBo) (m := 129) false hΓ rfl rfl rfl rfl rfl rfl (fun _ => rfl) (by omega) (by omega) (fun bp hp0 op0 => ?_))) | ((fail_if_success refine J.wt ?_); refine J.gc rfl rfl (fun hc => ?_) (fun hc => ?_) <;> ((try simp only [decide_eq_true_eq, decide_eq_false_iff_not, beq_iff_eq, beq_eq_false_iff_ne, bne_iff_ne, bne_eq_false_iff_eq, Bool.not_eq_true', Bool.not_eq_false', Bool.not_eq_true, Bool.not_eq_false] at hc) <;> first | (first | (exact absurd rfl hc) | (exfalso; omega) | (exact absurd (hc.symm.trans (by assumption : _ = false)) (by decide)) | (exact absurd (hc.symm.trans (by assumption : _ = true)) (by decide))) | skip)))
    | (first | refine JC.seq ?_ | refine JC.region ?_ | refine JC.block ?_ | refine JC.ret ?_ | refine JC.exit ?_ | refine JC.skip ?_ | refine thenK.nn ?_ | refine thenK.r ?_ | refine thenK.x ?_ | refine blockK.nn ?_ | refine blockK.r ?_ | refine blockK.hit rfl ?_ | refine blockK.miss rfl ?_ | refine JC.condT rfl ?_ | refine JC.condF rfl ?_ | (refine JC.cond rfl (fun hc => ?_) (fun hc => ?_) <;> ((try simp only [decide_eq_true_eq, decide_eq_false_iff_not, beq_iff_eq, beq_eq_false_iff_ne, bne_iff_ne, bne_eq_false_iff_eq, Bool.not_eq_true', Bool.not_eq_false', Bool.not_eq_true, Bool.not_eq_false] at hc) <;> first | (first | (exact absurd rfl hc) | (exfalso; omega) | (exact absurd (hc.symm.trans (by assumption : _ = false)) (by decide)) | (exact absurd (hc.symm.trans (by assumption : _ = true)) (by decide))) | skip)) | (refine JC.drawA [] (by kernel_rfl) (by kernel_rfl) ?_) | refine drawK.nn ?_ | refine roundK.nn ?_ | refine roundK.r ?_ | refine roundK.x ?_ | refine loopK.r ?_ | refine loopK.x ?_)
    | fail
  all_goals exact ret1f rfl rfl rfl (fun w1 hw => Gives.of hw ⟨_, rfl, op0⟩)
theorem set_any (a : Option Addr) (cap : Nat) (l : List Bool) (h : Heap) (hs : SlT encBo 1 a l h) (hl : l.length = 129) (w : World) (hw : Holds h w) :
    Calls Tryd.prog 69 #[.slice a l.length cap] w fun e w' => e = .returned (sv (setP l)) ∧ Below w.heap.size w w' := by
  refine calls_of_JC (R := h) Tryd.func69 Tryd.ntmps69 rfl rfl (hw) ?_
  repeat' first
    | (refine J.isJ ?_; (first | (first | (refine J.o 0 ?_; refine J.ev' hΓ ?_) | refine J.nil ?_ | refine J.kd ?_ | (refine J.o 4 ?_; first | refine J.e0 hΓ ?_ | refine J.lT default hΓ ?_ | refine J.e1 hΓ ?_ | refine J.e2 hΓ ?_ | refine J.lR hΓ ?_) | (refine J.o 3 ?_; first | refine J.iA hΓ ?_ | refine J.iJ hΓ ?_ | refine J.fP hΓ ?_ | refine J.iC hΓ ?_ | refine J.ev' hΓ ?_) | (refine J.o 1 ?_; first | refine J.ad ?_ | refine J.ct ?_ | refine J.sb ?_ | refine J.mu ?_ | refine J.ng ?_ | refine J.qu ?_ | refine J.rm ?_ | refine J.s1 ?_ | refine J.sr ?_ | refine J.aW ?_ | refine J.oW ?_ | refine J.nW ?_) | (refine J.o 2 ?_; refine J.cv _ hΓ ?_) | (refine J.o 5 ?_; first | refine J.t0 hΓ ?_ | refine J.t1 hΓ ?_ | refine J.t2 hΓ ?_ | refine J.tT _ default hΓ (fun _ _ => ?_) | refine J.tT1 _ default hΓ (fun _ _ => ?_) | refine J.tT2 _ default hΓ (fun _ _ => ?_) | refine J.tT3 _ default hΓ (fun _ _ => ?_)) | (refine J.o 6 ?_; refine J.bx (fun _ => ?_)) | (refine J.o 7 ?_; refine J.al hΓ (fun _ => ?_)) | (refine J.o 8 ?_; refine J.bd hΓ ?_) | (refine J.o 9 ?_; refine J.bl hΓ (fun _ => ?_)) | (refine J.o 10 ?_; first | refine J.ls hΓ ?_ | refine J.ev' hΓ ?_) | (refine J.o 11 ?_; first | refine J.eS ?_ | refine J.xS ?_ | refine J.ev' hΓ ?_ | refine J.nT hΓ ?_) | (refine J.o 12 ?_; refine J.ix hΓ ?_) | (refine J.o 13 ?_; first | refine J.sL hΓ ?_ | refine J.sH hΓ ?_) | (refine J.o 14 ?_; refine J.mf hΓ ?_) | refine J.kn ?_) | ((fail_if_success refine J.wt ?_); refine J.gc rfl rfl (fun hc => ?_) (fun hc => ?_) <;> ((try simp only [decide_eq_true_eq, decide_eq_false_iff_not, beq_iff_eq, beq_eq_false_iff_ne, bne_iff_ne, bne_eq_false_iff_eq, Bool.not_eq_true', Bool.not_eq_false', Bool.not_eq_true, Bool.not_eq_false] at hc) <;> first | (first | (exact absurd rfl hc) | (exfalso; omega) | (exact absurd (hc.symm.trans (by assumption : _ = false)) (by decide)) | (exact absurd (hc.symm.trans (by assumption : _ = true)) (by decide))) | skip))))
    | (first | refine JC.seq ?_ | refine JC.region ?_ | refine JC.block ?_ | refine JC.ret ?_ | refine JC.exit ?_ | refine JC.skip ?_ | refine thenK.nn ?_ | refine thenK.r ?_ | refine thenK.x ?_ | refine blockK.nn ?_ | refine blockK.r ?_ | refine blockK.hit rfl ?_ | refine blockK.miss rfl ?_ | refine JC.condT rfl ?_ | refine JC.condF rfl ?_ | (refine JC.cond rfl (fun hc => ?_) (fun hc => ?_) <;> ((try simp only [decide_eq_true_eq, decide_eq_false_iff_not, beq_iff_eq, beq_eq_false_iff_ne, bne_iff_ne, bne_eq_false_iff_eq, Bool.not_eq_true', Bool.not_eq_false', Bool.not_eq_true, Bool.not_eq_false] at hc) <;> first | (first | (exact absurd rfl hc) | (exfalso; omega) | (exact absurd (hc.symm.trans (by assumption : _ = false)) (by decide)) | (exact absurd (hc.symm.trans (by assumption : _ = true)) (by decide))) | skip)) | (refine JC.drawA [] (by kernel_rfl) (by kernel_rfl) ?_) | refine drawK.nn ?_ | refine roundK.nn ?_ | refine roundK.r ?_ | refine roundK.x ?_ | refine loopK.r ?_ | refine loopK.x ?_)
    | fail
  rename_i b2 b3
  refine JC.loop (fun i => i == 4 || Nat.ble 5 i) (fun m g L' => ∃ (k : Nat) (s : Nat × Nat), g 4 = .int .i64 (k : Int) ∧ k + m = 129 ∧ 1 ≤ k ∧ okS s ∧ setL (l.drop k) k s = setP l ∧ L' = [[(b3, .cells ⟨[.int .u64 (s.1 : Int), .int .u64 (s.2 : Int)]⟩ _ (0, 0))], _]) 128 ⟨1, (0, 0), rfl, by omega, by omega, ⟨by decide, by decide⟩, rfl, rfl⟩ ?_
  rintro m g L' ⟨k, s, e4, hkm, hk1, hok, hch, rfl⟩
  refine JC.pin 4 e4 ?_
  clear e4
  obtain ⟨o1, o2⟩ := hok
  by_cases hk : k < 129
  case neg =>
    rw [List.drop_eq_nil_of_le (by omega), setL] at hch
    rw [← hch]
    repeat' first
      | (refine J.isJ ?_; (first | (first | (refine J.o 0 ?_; refine J.ev' hΓ ?_) | refine J.nil ?_ | refine J.kd ?_ | (refine J.o 4 ?_; first | refine J.e0 hΓ ?_ | refine J.lT default hΓ ?_ | refine J.e1 hΓ ?_ | refine J.e2 hΓ ?_ | refine J.lR hΓ ?_) | (refine J.o 3 ?_; first | refine J.iA hΓ ?_ | refine J.iJ hΓ ?_ | refine J.fP hΓ ?_ | refine J.iC hΓ ?_ | refine J.ev' hΓ ?_) | (refine J.o 1 ?_; first | refine J.ad ?_ | refine J.ct ?_ | refine J.sb ?_ | refine J.mu ?_ | refine J.ng ?_ | refine J.qu ?_ | refine J.rm ?_ | refine J.s1 ?_ | refine J.sr ?_ | refine J.aW ?_ | refine J.oW ?_ | refine J.nW ?_) | (refine J.o 2 ?_; refine J.cv _ hΓ ?_) | (refine J.o 5 ?_; first | refine J.t0 hΓ ?_ | refine J.t1 hΓ ?_ | refine J.t2 hΓ ?_ | refine J.tT _ default hΓ (fun _ _ => ?_) | refine J.tT1 _ default hΓ (fun _ _ => ?_) | refine J.tT2 _ default hΓ (fun _ _ => ?_) | refine J.tT3 _ default hΓ (fun _ _ => ?_)) | (refine J.o 6 ?_; refine J.bx (fun _ => ?_)) | (refine J.o 7 ?_; refine J.al hΓ (fun _ => ?_)) | (refine J.o 8 ?_; refine J.bd hΓ ?_) | (refine J.o 9 ?_; refine J.bl hΓ (fun _ => ?_)) | (refine J.o 10 ?_; first | refine J.ls hΓ ?_ | refine J.ev' hΓ ?_) | (refine J.o 11 ?_; first | refine J.eS ?_ | refine J.xS ?_ | refine J.ev' hΓ ?_ | refine J.nT hΓ ?_) | (refine J.o 12 ?_; refine J.ix hΓ ?_) | (refine J.o 13 ?_; first | refine J.sL hΓ ?_ | refine J.sH hΓ ?_) | (refine J.o 14 ?_; refine J.mf hΓ ?_) | refine J.kn ?_) | ((fail_if_success refine J.wt ?_); refine J.gc rfl rfl (fun hc => ?_) (fun hc => ?_) <;> ((try simp only [decide_eq_true_eq, decide_eq_false_iff_not, beq_iff_eq, beq_eq_false_iff_ne, bne_iff_ne, bne_eq_false_iff_eq, Bool.not_eq_true', Bool.not_eq_false', Bool.not_eq_true, Bool.not_eq_false] at hc) <;> first | (first | (exact absurd rfl hc) | (exfalso; omega) | (exact absurd (hc.symm.trans (by assumption : _ = false)) (by decide)) | (exact absurd (hc.symm.trans (by assumption : _ = true)) (by decide))) | skip))))
      | (first | refine JC.seq ?_ | refine JC.region ?_ | refine JC.block ?_ | refine JC.ret ?_ | refine JC.exit ?_ | refine JC.skip ?_ | refine thenK.nn ?_ | refine thenK.r ?_ | refine thenK.x ?_ | refine blockK.nn ?_ | refine blockK.r ?_ | refine blockK.hit rfl ?_ | refine blockK.miss rfl ?_ | refine JC.condT rfl ?_ | refine JC.condF rfl ?_ | (refine JC.cond rfl (fun hc => ?_) (fun hc => ?_) <;> ((try simp only [decide_eq_true_eq, decide_eq_false_iff_not, beq_iff_eq, beq_eq_false_iff_ne, bne_iff_ne, bne_eq_false_iff_eq, Bool.not_eq_true', Bool.not_eq_false', Bool.not_eq_true, Bool.not_eq_false] at hc) <;> first | (first | (exact absurd rfl hc) | (exfalso; omega) | (exact absurd (hc.symm.trans (by assumption : _ = false)) (by decide)) | (exact absurd (hc.symm.trans (by assumption : _ = true)) (by decide))) | skip)) | (refine JC.drawA [] (by kernel_rfl) (by kernel_rfl) ?_) | refine drawK.nn ?_ | refine roundK.nn ?_ | refine roundK.r ?_ | refine roundK.x ?_ | refine loopK.r ?_ | refine loopK.x ?_)
      | fail
    all_goals first | (exfalso; omega) | exact retC hΓ rfl rfl rfl Rd.hd.tl rfl (fun w1 hw => ⟨rfl, hw.below⟩)
  have hdr : l.drop k = l.getD k default :: l.drop (k + 1) := drop_one l k (by omega)
  rw [hdr, setL] at hch
  cases hb : l.getD k default with
  | false =>
    rw [hb] at hch
    repeat' first
      | (refine J.isJ ?_; (first | (first | (refine J.o 0 ?_; refine J.ev' hΓ ?_) | refine J.nil ?_ | refine J.kd ?_ | (refine J.o 4 ?_; first | refine J.e0 hΓ ?_ | refine J.lT default hΓ ?_ | refine J.e1 hΓ ?_ | refine J.e2 hΓ ?_ | refine J.lR hΓ ?_) | (refine J.o 3 ?_; first | refine J.iA hΓ ?_ | refine J.iJ hΓ ?_ | refine J.fP hΓ ?_ | refine J.iC hΓ ?_ | refine J.ev' hΓ ?_) | (refine J.o 1 ?_; first | refine J.ad ?_ | refine J.ct ?_ | refine J.sb ?_ | refine J.mu ?_ | refine J.ng ?_ | refine J.qu ?_ | refine J.rm ?_ | refine J.s1 ?_ | refine J.sr ?_ | refine J.aW ?_ | refine J.oW ?_ | refine J.nW ?_) | (refine J.o 2 ?_; refine J.cv _ hΓ ?_) | (refine J.o 5 ?_; first | refine J.t0 hΓ ?_ | refine J.t1 hΓ ?_ | refine J.t2 hΓ ?_ | refine J.tT _ default hΓ (fun _ _ => ?_) | refine J.tT1 _ default hΓ (fun _ _ => ?_) | refine J.tT2 _ default hΓ (fun _ _ => ?_) | refine J.tT3 _ default hΓ (fun _ _ => ?_)) | (refine J.o 6 ?_; refine J.bx (fun _ => ?_)) | (refine J.o 7 ?_; refine J.al hΓ (fun _ => ?_)) | (refine J.o 8 ?_; refine J.bd hΓ ?_) | (refine J.o 9 ?_; refine J.bl hΓ (fun _ => ?_)) | (refine J.o 10 ?_; first | refine J.ls hΓ ?_ | refine J.ev' hΓ ?_) | (refine J.o 11 ?_; first | refine J.eS ?_ | refine J.xS ?_ | refine J.ev' hΓ ?_ | refine J.nT hΓ ?_) | (refine J.o 12 ?_; refine J.ix hΓ ?_) | (refine J.o 13 ?_; first | refine J.sL hΓ ?_ | refine J.sH hΓ ?_) | (refine J.o 14 ?_; refine J.mf hΓ ?_) | refine J.kn ?_) | ((fail_if_success refine J.wt ?_); refine J.gc rfl rfl (fun hc => ?_) (fun hc => ?_) <;> ((try simp only [decide_eq_true_eq, decide_eq_false_iff_not, beq_iff_eq, beq_eq_false_iff_ne, bne_iff_ne, bne_eq_false_iff_eq, Bool.not_eq_true', Bool.not_eq_false', Bool.not_eq_true, Bool.not_eq_false] at hc) <;> first | (first | (exact absurd rfl hc) | (exfalso; omega) | (exact absurd (hc.symm.trans (by assumption : _ = false)) (by decide)) | (exact absurd (hc.symm.trans (by assumption : _ = true)) (by decide))) | skip))))
      | (first | refine JC.seq ?_ | refine JC.region ?_ | refine JC.block ?_ | refine JC.ret ?_ | refine JC.exit ?_ | refine JC.skip ?_ | refine thenK.nn ?_ | refine thenK.r ?_ | refine thenK.x ?_ | refine blockK.nn ?_ | refine blockK.r ?_ | refine blockK.hit rfl ?_ | refine blockK.miss rfl ?_ | refine JC.condT rfl ?_ | refine JC.condF rfl ?_ | (refine JC.cond rfl (fun hc => ?_) (fun hc => ?_) <;> ((try simp only [decide_eq_true_eq, decide_eq_false_iff_not, beq_iff_eq, beq_eq_false_iff_ne, bne_iff_ne, bne_eq_false_iff_eq, Bool.not_eq_true', Bool.not_eq_false', Bool.not_eq_true, Bool.not_eq_false] at hc) <;> first | (first | (exact absurd rfl hc) | (exfalso; omega) | (exact absurd (hc.symm.trans (by assumption : _ = false)) (by decide)) | (exact absurd (hc.symm.trans (by assumption : _ = true)) (by decide))) | skip)) | (refine JC.drawA [] (by kernel_rfl) (by kernel_rfl) ?_) | refine drawK.nn ?_ | refine roundK.nn ?_ | refine roundK.r ?_ | refine roundK.x ?_ | refine loopK.r ?_ | refine loopK.x ?_)
      | fail
    all_goals first | (exfalso; omega) | (rw [hb] at hc; cases hc; done) | skip
    all_goals refine loopK.nn (m - 1) (by omega) (by repeat (first | refine Ag.upd rfl ?_ | exact Ag.hv)) ⟨k + 1, s, ?_, by omega, by omega, ⟨o1, o2⟩, hch, rfl⟩
    all_goals (show Value.int .i64 _ = _; congr 1)
  | true =>
    rw [hb, if_pos rfl] at hch
    have hok' := ok_with ⟨o1, o2⟩ (k : Int)
    by_cases h64 : k ≤ 64
    · have hwv : withS s k = (s.1 ||| 2 ^ ((k : Int) - 1).toNat, s.2) := by unfold withS; rw [if_pos (by omega)]
      have e2 : ((k : Int) - 1) % 64 = (k : Int) - 1 := by omega
      repeat' first
        | (refine J.isJ ?_; (first | (first | (refine J.o 0 ?_; refine J.ev' hΓ ?_) | refine J.nil ?_ | refine J.kd ?_ | (refine J.o 4 ?_; first | refine J.e0 hΓ ?_ | refine J.lT default hΓ ?_ | refine J.e1 hΓ ?_ | refine J.e2 hΓ ?_ | refine J.lR hΓ ?_) | (refine J.o 3 ?_; first | refine J.iA hΓ ?_ | refine J.iJ hΓ ?_ | refine J.fP hΓ ?_ | refine J.iC hΓ ?_ | refine J.ev' hΓ ?_) | (refine J.o 1 ?_; first | refine J.ad ?_ | refine J.ct ?_ | refine J.sb ?_ | refine J.mu ?_ | refine J.ng ?_ | refine J.qu ?_ | refine J.rm ?_ | refine J.s1 ?_ | refine J.sr ?_ | refine J.aW ?_ | refine J.oW ?_ | refine J.nW ?_) | (refine J.o 2 ?_; refine J.cv _ hΓ ?_) | (refine J.o 5 ?_; first | refine J.t0 hΓ ?_ | refine J.t1 hΓ ?_ | refine J.t2 hΓ ?_ | refine J.tT _ default hΓ (fun _ _ => ?_) | refine J.tT1 _ default hΓ (fun _ _ => ?_) | refine J.tT2 _ default hΓ (fun _ _ => ?_) | refine J.tT3 _ default hΓ (fun _ _ => ?_)) | (refine J.o 6 ?_; refine J.bx (fun _ => ?_)) | (refine J.o 7 ?_; refine J.al hΓ (fun _ => ?_)) | (refine J.o 8 ?_; refine J.bd hΓ ?_) | (refine J.o 9 ?_; refine J.bl hΓ (fun _ => ?_)) | (refine J.o 10 ?_; first | refine J.ls hΓ ?_ | refine J.ev' hΓ ?_) | (refine J.o 11 ?_; first | refine J.eS ?_ | refine J.xS ?_ | refine J.ev' hΓ ?_ | refine J.nT hΓ ?_) | (refine J.o 12 ?_; refine J.ix hΓ ?_) | (refine J.o 13 ?_; first | refine J.sL hΓ ?_ | refine J.sH hΓ ?_) | (refine J.o 14 ?_; refine J.mf hΓ ?_) | refine J.kn ?_) | ((fail_if_success refine J.wt ?_); refine J.gc rfl rfl (fun hc => ?_) (fun hc => ?_) <;> ((try simp only [decide_eq_true_eq, decide_eq_false_iff_not, beq_iff_eq, beq_eq_false_iff_ne, bne_iff_ne, bne_eq_false_iff_eq, Bool.not_eq_true', Bool.not_eq_false', Bool.not_eq_true, Bool.not_eq_false] at hc) <;> first | (first | (exact absurd rfl hc) | (exfalso; omega) | (exact absurd (hc.symm.trans (by assumption : _ = false)) (by decide)) | (exact absurd (hc.symm.trans (by assumption : _ = true)) (by decide))) | skip))))
        | (first | refine JC.seq ?_ | refine JC.region ?_ | refine JC.block ?_ | refine JC.ret ?_ | refine JC.exit ?_ | refine JC.skip ?_ | refine thenK.nn ?_ | refine thenK.r ?_ | refine thenK.x ?_ | refine blockK.nn ?_ | refine blockK.r ?_ | refine blockK.hit rfl ?_ | refine blockK.miss rfl ?_ | refine JC.condT rfl ?_ | refine JC.condF rfl ?_ | (refine JC.cond rfl (fun hc => ?_) (fun hc => ?_) <;> ((try simp only [decide_eq_true_eq, decide_eq_false_iff_not, beq_iff_eq, beq_eq_false_iff_ne, bne_iff_ne, bne_eq_false_iff_eq, Bool.not_eq_true', Bool.not_eq_false', Bool.not_eq_true, Bool.not_eq_false] at hc) <;> first | (first | (exact absurd rfl hc) | (exfalso; omega) | (exact absurd (hc.symm.trans (by assumption : _ = false)) (by decide)) | (exact absurd (hc.symm.trans (by assumption : _ = true)) (by decide))) | skip)) | (refine JC.drawA [] (by kernel_rfl) (by kernel_rfl) ?_) | refine drawK.nn ?_ | refine roundK.nn ?_ | refine roundK.r ?_ | refine roundK.x ?_ | refine loopK.r ?_ | refine loopK.x ?_)
        | fail
      all_goals first | (exfalso; omega) | (rw [hb] at hc; cases hc; done) | skip
      all_goals refine loopK.nn (m - 1) (by omega) (by repeat (first | refine Ag.upd rfl ?_ | exact Ag.hv)) ⟨k + 1, _, ?_, by omega, by omega, hok', hch, by rw [hwv, e2]⟩
      all_goals (show Value.int .i64 _ = _; congr 1)
    · have hwv : withS s k = (s.1, s.2 ||| 2 ^ ((k : Int) - 65).toNat) := by unfold withS; rw [if_neg (by omega), if_pos (by omega)]
      have e2 : ((k : Int) - 1) % 64 = (k : Int) - 65 := by omega
      repeat' first
        | (refine J.isJ ?_; (first | (first | (refine J.o 0 ?_; refine J.ev' hΓ ?_) | refine J.nil ?_ | refine J.kd ?_ | (refine J.o 4 ?_; first | refine J.e0 hΓ ?_ | refine J.lT default hΓ ?_ | refine J.e1 hΓ ?_ | refine J.e2 hΓ ?_ | refine J.lR hΓ ?_) | (refine J.o 3 ?_; first | refine J.iA hΓ ?_ | refine J.iJ hΓ ?_ | refine J.fP hΓ ?_ | refine J.iC hΓ ?_ | refine J.ev' hΓ ?_) | (refine J.o 1 ?_; first | refine J.ad ?_ | refine J.ct ?_ | refine J.sb ?_ | refine J.mu ?_ | refine J.ng ?_ | refine J.qu ?_ | refine J.rm ?_ | refine J.s1 ?_ | refine J.sr ?_ | refine J.aW ?_ | refine J.oW ?_ | refine J.nW ?_) | (refine J.o 2 ?_; refine J.cv _ hΓ ?_) | (refine J.o 5 ?_; first | refine J.t0 hΓ ?_ | refine J.t1 hΓ ?_ | refine J.t2 hΓ ?_ | refine J.tT _ default hΓ (fun _ _ => ?_) | refine J.tT1 _ default hΓ (fun _ _ => ?_) | refine J.tT2 _ default hΓ (fun _ _ => ?_) | refine J.tT3 _ default hΓ (fun _ _ => ?_)) | (refine J.o 6 ?_; refine J.bx (fun _ => ?_)) | (refine J.o 7 ?_; refine J.al hΓ (fun _ => ?_)) | (refine J.o 8 ?_; refine J.bd hΓ ?_) | (refine J.o 9 ?_; refine J.bl hΓ (fun _ => ?_)) | (refine J.o 10 ?_; first | refine J.ls hΓ ?_ | refine J.ev' hΓ ?_) | (refine J.o 11 ?_; first | refine J.eS ?_ | refine J.xS ?_ | refine J.ev' hΓ ?_ | refine J.nT hΓ ?_) | (refine J.o 12 ?_; refine J.ix hΓ ?_) | (refine J.o 13 ?_; first | refine J.sL hΓ ?_ | refine J.sH hΓ ?_) | (refine J.o 14 ?_; refine J.mf hΓ ?_) | refine J.kn ?_) | ((fail_if_success refine J.wt ?_); refine J.gc rfl rfl (fun hc => ?_) (fun hc => ?_) <;> ((try simp only [decide_eq_true_eq, decide_eq_false_iff_not, beq_iff_eq, beq_eq_false_iff_ne, bne_iff_ne, bne_eq_false_iff_eq, Bool.not_eq_true', Bool.not_eq_false', Bool.not_eq_true, Bool.not_eq_false] at hc) <;> first | (first | (exact absurd rfl hc) | (exfalso; omega) | (exact absurd (hc.symm.trans (by assumption : _ = false)) (by decide)) | (exact absurd (hc.symm.trans (by assumption : _ = true)) (by decide))) | skip))))
        | (first | refine JC.seq ?_ | refine JC.region ?_ | refine JC.block ?_ | refine JC.ret ?_ | refine JC.exit ?_ | refine JC.skip ?_ | refine thenK.nn ?_ | refine thenK.r ?_ | refine thenK.x ?_ | refine blockK.nn ?_ | refine blockK.r ?_ | refine blockK.hit rfl ?_ | refine blockK.miss rfl ?_ | refine JC.condT rfl ?_ | refine JC.condF rfl ?_ | (refine JC.cond rfl (fun hc => ?_) (fun hc => ?_) <;> ((try simp only [decide_eq_true_eq, decide_eq_false_iff_not, beq_iff_eq, beq_eq_false_iff_ne, bne_iff_ne, bne_eq_false_iff_eq, Bool.not_eq_true', Bool.not_eq_false', Bool.not_eq_true, Bool.not_eq_false] at hc) <;> first | (first | (exact absurd rfl hc) | (exfalso; omega) | (exact absurd (hc.symm.trans (by assumption : _ = false)) (by decide)) | (exact absurd (hc.symm.trans (by assumption : _ = true)) (by decide))) | skip)) | (refine JC.drawA [] (by kernel_rfl) (by kernel_rfl) ?_) | refine drawK.nn ?_ | refine roundK.nn ?_ | refine roundK.r ?_ | refine roundK.x ?_ | refine loopK.r ?_ | refine loopK.x ?_)
        | fail
      all_goals first | (exfalso; omega) | (rw [hb] at hc; cases hc; done) | skip
      all_goals refine loopK.nn (m - 1) (by omega) (by repeat (first | refine Ag.upd rfl ?_ | exact Ag.hv)) ⟨k + 1, _, ?_, by omega, by omega, hok', hch, by rw [hwv, e2]⟩
      all_goals (show Value.int .i64 _ = _; congr 1)
end Go.Proofs.YtfegpmoephdkpaaDoor
