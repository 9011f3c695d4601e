/- Both readers of chapter 42 answer alike; TreeParses' walk. -/
import Derived.Test.YtfegpmoephdkpaaDoorUb
import Derived.Test.YtfegpmoephdkpaaDoorTc
namespace Go.Proofs.YtfegpmoephdkpaaDoor
open Go Go.Cx Go.RowKit
set_option linter.unusedVariables false
set_option linter.unusedSimpArgs false
set_option maxHeartbeats 4000000
attribute [local irreducible] J JC thenK blockK loopK roundK drawK retK QW Qt pel List.set Calls

theorem eatR_neg (l : List UInt8) (c : UInt8) : eatR l c (-1) = -1 := by unfold eatR; rw [if_neg (by omega)]
theorem eat_yes {l : List UInt8} {c : UInt8} {p : Nat} (h : eatB (l.drop p) c = true) : p < l.length ∧ l.getD p 0 = c ∧ eatL (l.drop p) c = l.drop (p + 1) ∧ eatR l c p = ((p + 1 : Nat) : Int) := by
  have hp : p < l.length := by
    rcases Nat.lt_or_ge p l.length with hp | hp
    · exact hp
    · rw [List.drop_eq_nil_of_le hp] at h; cases h
  have hd : l.drop p = l.getD p 0 :: l.drop (p + 1) := drop_one l p hp
  have hc : l.getD p 0 = c := by
    rw [hd] at h
    simpa [eatB] using h
  refine ⟨hp, hc, ?_, ?_⟩
  · unfold eatL; rw [if_pos h, hd]; rfl
  · unfold eatR; rw [if_pos ⟨by omega, by omega, by rw [Int.toNat_natCast]; exact hc⟩]; omega
theorem eat_no {l : List UInt8} {c : UInt8} {p : Nat} (h : eatB (l.drop p) c = false) : eatL (l.drop p) c = l.drop p ∧ eatR l c p = -1 := by
  refine ⟨by unfold eatL; rw [if_neg (by rw [h]; decide)], ?_⟩
  unfold eatR
  rw [if_neg]
  rintro ⟨_, h2, h3⟩
  rw [Int.toNat_natCast] at h3
  have hd : l.drop p = l.getD p 0 :: l.drop (p + 1) := drop_one l p (by omega)
  rw [hd] at h
  unfold eatB at h
  rw [h3] at h
  simp at h
theorem eat_at {l : List UInt8} {c : UInt8} {p : Nat} (hp : p < l.length) : eatB (l.drop p) c = (l.getD p 0 == c) := by
  have hd : l.drop p = l.getD p 0 :: l.drop (p + 1) := drop_one l p hp
  rw [hd]; rfl
theorem valD_dec : ∀ (l : List UInt8) (acc : Nat), (∀ x, x ∈ l → dig x = true) → ∃ n : Nat, Lib.decFrom acc l = some n ∧ valD l (acc : Int) = (n : Int)
  | [], acc, _ => ⟨acc, rfl, rfl⟩
  | x :: l, acc, h => by
    have hx' := of_decide_eq_true (h x (List.mem_cons_self ..))
    obtain ⟨n, hn, hv⟩ := valD_dec l (acc * 10 + (x.toNat - 48)) (fun y hy => h y (List.mem_cons_of_mem _ hy))
    refine ⟨n, ?_, ?_⟩
    · unfold Lib.decFrom Lib.digitVal
      rw [if_pos hx']
      exact hn
    · rw [valD, ← hv]
      congr 1
      omega
theorem atoi_val (l : List UInt8) (h0 : l ≠ []) (h : ∀ x, x ∈ l → dig x = true) : Lib.atoi l = some (valD l 0) := by
  cases l with
  | nil => exact absurd rfl h0
  | cons x l =>
    obtain ⟨n, hn, hv⟩ := valD_dec (x :: l) 0 h
    have hx := of_decide_eq_true (h x (List.mem_cons_self ..))
    have h1 : (x == 45) = false := by
      cases hc : x == 45 with
      | false => rfl
      | true => rw [beq_iff_eq.1 hc] at hx; exact absurd hx (by decide)
    have h2 : (x == 43) = false := by
      cases hc : x == 43 with
      | false => rfl
      | true => rw [beq_iff_eq.1 hc] at hx; exact absurd hx (by decide)
    unfold Lib.atoi
    simp only [h1, h2, Bool.false_eq_true, if_false]
    unfold Lib.decNat
    rw [List.isEmpty_cons, if_neg (by decide), hn]
    have hv' : valD (x :: l) 0 = (n : Int) := hv
    rw [hv']
    rfl
theorem num_none {l : List UInt8} {p : Nat} (h : numS (l.drop p) = none) : (numR l p).1 = -1 := by
  unfold numS at h
  unfold numR
  rw [if_neg (by omega), Int.toNat_natCast]
  have hg : (l.drop p).getD 0 0 = l.getD p 0 := by
    rw [List.getD_eq_getElem?_getD, List.getD_eq_getElem?_getD, List.getElem?_drop]; simp
  simp only [hg] at h ⊢
  split at h
  · rename_i hc; rw [if_pos hc]
  · cases h
theorem num_some {l : List UInt8} {p : Nat} {q : Int × List UInt8} (h : numS (l.drop p) = some q) : ∃ i : Nat, q.2 = l.drop (p + i) ∧ p + i ≤ l.length ∧ (numR l p).1 = ((p + i : Nat) : Int) ∧ (numR l p).2 = q.1 := by
  unfold numS at h
  unfold numR
  rw [if_neg (by omega), Int.toNat_natCast]
  have hg : (l.drop p).getD 0 0 = l.getD p 0 := by
    rw [List.getD_eq_getElem?_getD, List.getD_eq_getElem?_getD, List.getElem?_drop]; simp
  simp only [hg] at h ⊢
  have hle := (cntD_le 6 (l.drop p)).2
  rw [List.length_drop] at hle
  split at h
  · cases h
  · rename_i hc
    rw [if_neg hc]
    obtain rfl := Option.some.inj h
    have hi : 1 ≤ cntD 6 (l.drop p) := by omega
    refine ⟨cntD 6 (l.drop p), by rw [List.drop_drop], by omega, by omega, ?_⟩
    rw [atoi_val _ (by
      intro h0
      have := congrArg List.length h0
      rw [List.length_take, List.length_drop, List.length_nil] at this
      omega) (fun x hx => cntD_dig 6 _ x hx)]
    rfl

theorem node_rel (l : List UInt8) : ∀ (f : Nat) (ts : List Nd) (p : Nat), p ≤ l.length →
    ((nodeP f ts (l.drop p)).1 = true → ∃ q : Nat, q ≤ l.length ∧ (nodeP f ts (l.drop p)).2.2 = l.drop q ∧ nodeR l f ts p = ((q : Int), (nodeP f ts (l.drop p)).2.1)) ∧
    ((nodeP f ts (l.drop p)).1 = false → (nodeR l f ts p).1 = -1) := by
  intro f
  induction f with
  | zero => intro ts p hp; exact ⟨(fun h => by cases h), fun _ => rfl⟩
  | succ f ih =>
    intro ts p hp
    rw [nodeP, nodeR]
    by_cases hend : p = l.length
    · have hd : l.drop p = [] := List.drop_eq_nil_of_le (by omega)
      rw [hd]
      have e : ∀ c, eatB [] c = false := fun c => rfl
      have el : ∀ c, eatL [] c = [] := fun c => rfl
      simp only [e, el, Bool.false_eq_true, if_false, if_true]
      rw [if_pos (.inr (by omega))]
      exact ⟨(fun h => by cases h), fun _ => rfl⟩
    have hlt : p < l.length := by omega
    rw [if_neg (show ¬ ((p : Int) < 0 ∨ (l.length : Int) ≤ p) by omega), Int.toNat_natCast]
    cases h43 : eatB (l.drop p) 43 with
    | true =>
      obtain ⟨_, a2, a3, a4⟩ := eat_yes h43
      rw [if_pos rfl, if_pos a2, a3, a4]
      exact ⟨fun _ => ⟨p + 1, by omega, rfl, rfl⟩, (fun h => by cases h)⟩
    | false =>
    have n43 : ¬ l.getD p 0 = 43 := fun h => by rw [eat_at hlt, h] at h43; simp at h43
    rw [if_neg (by decide), (eat_no h43).1, if_neg n43]
    cases h45 : eatB (l.drop p) 45 with
    | true =>
      obtain ⟨_, a2, a3, a4⟩ := eat_yes h45
      rw [if_pos rfl, if_pos (by rw [a2]; decide), a3, a4]
      exact ⟨fun _ => ⟨p + 1, by omega, rfl, rfl⟩, (fun h => by cases h)⟩
    | false =>
    rw [if_neg (by decide), (eat_no h45).1]
    cases h40 : eatB (l.drop p) 40 with
    | false =>
      have n40 : l.getD p 0 ≠ 40 := fun h => by rw [eat_at hlt, h] at h40; simp at h40
      rw [if_pos rfl, if_pos n40, (eat_no h45).2]
      exact ⟨(fun h => by cases h), fun _ => rfl⟩
    | true =>
    obtain ⟨_, a2, a3, a4⟩ := eat_yes h40
    rw [if_neg (by decide), if_neg (fun h => h a2), a3, a4]
    cases hn : numS (l.drop (p + 1)) with
    | none =>
      simp only [num_none hn, eatR_neg, nodeR_neg]
      exact ⟨(fun h => by cases h), fun _ => trivial⟩
    | some q =>
    obtain ⟨i, b1, b2, b3, b4⟩ := num_some hn
    simp only [b1, b3, b4]
    cases h32 : eatB (l.drop (p + 1 + i)) 32 with
    | false =>
      simp only [(eat_no h32).2, eatR_neg, nodeR_neg, if_true]
      exact ⟨(fun h => by cases h), fun _ => trivial⟩
    | true =>
    obtain ⟨_, _, c3, c4⟩ := eat_yes h32
    rw [if_neg (by decide)]
    simp only [c3, c4]
    obtain ⟨i1, i2⟩ := ih (ts ++ [⟨0, 0, 0, false⟩]) (p + 1 + i + 1) (by omega)
    cases hr : (nodeP f (ts ++ [⟨0, 0, 0, false⟩]) (l.drop (p + 1 + i + 1))).1 with
    | false =>
      simp only [i2 hr, eatR_neg, nodeR_neg, if_true]
      exact ⟨(fun h => by cases h), fun _ => trivial⟩
    | true =>
    obtain ⟨q1, d1, d2, d3⟩ := i1 hr
    rw [if_neg (by decide), d3]
    simp only [d2]
    cases h32' : eatB (l.drop q1) 32 with
    | false =>
      simp only [(eat_no h32').2, eatR_neg, nodeR_neg, if_true]
      exact ⟨(fun h => by cases h), fun _ => trivial⟩
    | true =>
    obtain ⟨_, _, e3, e4⟩ := eat_yes h32'
    rw [if_neg (by decide)]
    simp only [e3, e4]
    generalize (nodeP f (ts ++ [⟨0, 0, 0, false⟩]) (l.drop (p + 1 + i + 1))).2.1 = ts2
    obtain ⟨j1, j2⟩ := ih ts2 (q1 + 1) (by omega)
    cases hr2 : (nodeP f ts2 (l.drop (q1 + 1))).1 with
    | false =>
      simp only [j2 hr2, eatR_neg, if_true]
      exact ⟨(fun h => by cases h), fun _ => trivial⟩
    | true =>
    obtain ⟨q2, k1, k2, k3⟩ := j1 hr2
    rw [if_neg (by decide), k3]
    simp only [k2]
    cases h41 : eatB (l.drop q2) 41 with
    | false =>
      simp only [(eat_no h41).2, if_true]
      exact ⟨(fun h => by cases h), fun _ => trivial⟩
    | true =>
    obtain ⟨_, _, g3, g4⟩ := eat_yes h41
    rw [if_neg (by decide), g3, g4]
    exact ⟨fun _ => ⟨q2 + 1, by omega, rfl, rfl⟩, (fun h => by cases h)⟩

theorem parse_eq (l : List UInt8) : parseR l = parseP l := by
  unfold parseR parseP
  obtain ⟨h1, h2⟩ := node_rel l (l.length + 1) [] 0 (by omega)
  rw [List.drop_zero] at h1 h2
  by_cases h0 : 1048576 < l.length
  · rw [if_pos h0, if_pos h0]
  rw [if_neg h0, if_neg h0]
  cases hb : (nodeP (l.length + 1) [] l).1 with
  | false =>
    have := h2 hb
    have e : (nodeR l (l.length + 1) [] 0).1 = -1 := this
    rw [if_pos rfl, if_pos (by rw [e]; omega)]
  | true =>
    obtain ⟨q, a1, a2, a3⟩ := h1 hb
    have a3' : nodeR l (l.length + 1) [] 0 = ((q : Int), (nodeP (l.length + 1) [] l).2.1) := a3
    rw [if_neg (show ¬ (true = false) by decide), a3', a2]
    by_cases hq : q = l.length
    · have hd : l.drop q = [] := List.drop_eq_nil_of_le (by omega)
      rw [if_neg (show ¬ (((q : Int), (nodeP (l.length + 1) [] l).2.1).1 ≠ (l.length : Int)) by simp [hq]), if_neg (show ¬ (l.drop q ≠ []) by simp [hd])]
    · have hd : l.drop q ≠ [] := fun h => hq (by have := congrArg List.length h; rw [List.length_drop, List.length_nil] at this; omega)
      rw [if_pos (by simp; omega), if_pos hd]
theorem parse_len (l : List UInt8) : (parseP l).2.length ≤ 4096 := by
  unfold parseP
  split
  · exact Nat.zero_le _
  split
  · exact Nat.zero_le _
  split
  · exact Nat.zero_le _
  split
  · rename_i h
    exact ((valid_iff _ 128).1 h).le
  · exact Nat.zero_le _

theorem eParseR : Entr Tryd.prog 23 := Entr.of Tryd.func23 rfl rfl
theorem refParse_eq (l : List UInt8) (w : World) : Calls Tryd.prog 23 #[.string (S l)] w (Gives (TreeErr 73 (parseP l)) w) := by
  rw [← parse_eq]; exact refParse_any l w
theorem treeParses_walk (l : List UInt8) (w : World) : Calls Tryd.prog 7 #[.string (S l)] w fun e w' => e = .returned (.bool true) ∧ Below w.heap.size w w' := by
  refine calls_of_JC (R := []) Tryd.func7 Tryd.ntmps7 rfl rfl (Holds.nil _) ?_
  by_cases hl : 2000 < l.length
  ·
    repeat' first
      | (refine J.isJ ?_; first | (first | (refine J.o 0 ?_; refine J.ev' hΓ ?_) | refine J.nil ?_ | refine J.kd ?_ | (refine J.o 4 ?_; first | refine J.e0 hΓ ?_ | refine J.lT default hΓ ?_ | refine J.e1 hΓ ?_ | refine J.e2 hΓ ?_ | refine J.lR hΓ ?_) | (refine J.o 3 ?_; first | refine J.iA hΓ ?_ | refine J.iJ hΓ ?_ | refine J.fP hΓ ?_ | refine J.iC hΓ ?_ | refine J.ev' hΓ ?_) | (refine J.o 1 ?_; first | refine J.ad ?_ | refine J.ct ?_ | refine J.sb ?_ | refine J.mu ?_ | refine J.ng ?_ | refine J.qu ?_ | refine J.rm ?_ | refine J.s1 ?_ | refine J.sr ?_ | refine J.aW ?_ | refine J.oW ?_ | refine J.nW ?_) | (refine J.o 2 ?_; refine J.cv _ hΓ ?_) | (refine J.o 5 ?_; first | refine J.t0 hΓ ?_ | refine J.t1 hΓ ?_ | refine J.t2 hΓ ?_ | refine J.tT _ default hΓ (fun _ _ => ?_) | refine J.tT1 _ default hΓ (fun _ _ => ?_) | refine J.tT2 _ default hΓ (fun _ _ => ?_) | refine J.tT3 _ default hΓ (fun _ _ => ?_)) | (refine J.o 6 ?_; refine J.bx (fun _ => ?_)) | (refine J.o 7 ?_; refine J.al hΓ (fun _ => ?_)) | (refine J.o 8 ?_; refine J.bd hΓ ?_) | (refine J.o 9 ?_; refine J.bl hΓ (fun _ => ?_)) | (refine J.o 10 ?_; first | refine J.ls hΓ ?_ | refine J.ev' hΓ ?_) | (refine J.o 11 ?_; first | refine J.eS ?_ | refine J.xS ?_ | refine J.ev' hΓ ?_ | refine J.nT hΓ ?_) | (refine J.o 12 ?_; refine J.ix hΓ ?_) | (refine J.o 13 ?_; first | refine J.sL hΓ ?_ | refine J.sH hΓ ?_) | (refine J.o 14 ?_; refine J.mf hΓ ?_) | refine J.kn ?_) | ((refine J.fc 15 ?_; refine J.call0 eWorks rfl rfl (fun w hw => works_any w) ?_)) | ((fail_if_success refine J.wt ?_); refine J.gc rfl rfl (fun hc => ?_) (fun hc => ?_) <;> ((try simp only [decide_eq_true_eq, decide_eq_false_iff_not, beq_iff_eq, beq_eq_false_iff_ne, bne_iff_ne, bne_eq_false_iff_eq, Bool.not_eq_true', Bool.not_eq_false', Bool.not_eq_true, Bool.not_eq_false] at hc) <;> first | (first | (exact absurd rfl hc) | (exfalso; omega) | (exact absurd (hc.symm.trans (by assumption : _ = false)) (by decide)) | (exact absurd (hc.symm.trans (by assumption : _ = true)) (by decide))) | skip)))
      | (first | refine JC.seq ?_ | refine JC.region ?_ | refine JC.block ?_ | refine JC.ret ?_ | refine JC.exit ?_ | refine JC.skip ?_ | refine thenK.nn ?_ | refine thenK.r ?_ | refine thenK.x ?_ | refine blockK.nn ?_ | refine blockK.r ?_ | refine blockK.hit rfl ?_ | refine blockK.miss rfl ?_ | refine JC.condT rfl ?_ | refine JC.condF rfl ?_ | (refine JC.cond rfl (fun hc => ?_) (fun hc => ?_) <;> ((try simp only [decide_eq_true_eq, decide_eq_false_iff_not, beq_iff_eq, beq_eq_false_iff_ne, bne_iff_ne, bne_eq_false_iff_eq, Bool.not_eq_true', Bool.not_eq_false', Bool.not_eq_true, Bool.not_eq_false] at hc) <;> first | (first | (exact absurd rfl hc) | (exfalso; omega) | (exact absurd (hc.symm.trans (by assumption : _ = false)) (by decide)) | (exact absurd (hc.symm.trans (by assumption : _ = true)) (by decide))) | skip)) | (refine JC.drawA [] (by kernel_rfl) (by kernel_rfl) ?_) | refine drawK.nn ?_ | refine roundK.nn ?_ | refine roundK.r ?_ | refine roundK.x ?_ | refine loopK.r ?_ | refine loopK.x ?_)
      | fail
    all_goals first | (exfalso; omega) | exact ret1f rfl rfl rfl (fun w1 hw => ⟨rfl, hw.below⟩)
  have hpl := parse_len l
  have hsame : sameN (parseP l).2 (parseP l).2 = true := sameN_refl _
  repeat' first
    | (refine J.isJ ?_; first | (first | (refine J.o 0 ?_; refine J.ev' hΓ ?_) | refine J.nil ?_ | refine J.kd ?_ | (refine J.o 4 ?_; first | refine J.e0 hΓ ?_ | refine J.lT default hΓ ?_ | refine J.e1 hΓ ?_ | refine J.e2 hΓ ?_ | refine J.lR hΓ ?_) | (refine J.o 3 ?_; first | refine J.iA hΓ ?_ | refine J.iJ hΓ ?_ | refine J.fP hΓ ?_ | refine J.iC hΓ ?_ | refine J.ev' hΓ ?_) | (refine J.o 1 ?_; first | refine J.ad ?_ | refine J.ct ?_ | refine J.sb ?_ | refine J.mu ?_ | refine J.ng ?_ | refine J.qu ?_ | refine J.rm ?_ | refine J.s1 ?_ | refine J.sr ?_ | refine J.aW ?_ | refine J.oW ?_ | refine J.nW ?_) | (refine J.o 2 ?_; refine J.cv _ hΓ ?_) | (refine J.o 5 ?_; first | refine J.t0 hΓ ?_ | refine J.t1 hΓ ?_ | refine J.t2 hΓ ?_ | refine J.tT _ default hΓ (fun _ _ => ?_) | refine J.tT1 _ default hΓ (fun _ _ => ?_) | refine J.tT2 _ default hΓ (fun _ _ => ?_) | refine J.tT3 _ default hΓ (fun _ _ => ?_)) | (refine J.o 6 ?_; refine J.bx (fun _ => ?_)) | (refine J.o 7 ?_; refine J.al hΓ (fun _ => ?_)) | (refine J.o 8 ?_; refine J.bd hΓ ?_) | (refine J.o 9 ?_; refine J.bl hΓ (fun _ => ?_)) | (refine J.o 10 ?_; first | refine J.ls hΓ ?_ | refine J.ev' hΓ ?_) | (refine J.o 11 ?_; first | refine J.eS ?_ | refine J.xS ?_ | refine J.ev' hΓ ?_ | refine J.nT hΓ ?_) | (refine J.o 12 ?_; refine J.ix hΓ ?_) | (refine J.o 13 ?_; first | refine J.sL hΓ ?_ | refine J.sH hΓ ?_) | (refine J.o 14 ?_; refine J.mf hΓ ?_) | refine J.kn ?_) | (first | (refine J.fc 15 ?_; refine J.call0 eWorks rfl rfl (fun w hw => works_any w) ?_) | (refine J.fc 22 ?_; refine J.call1 eParse rfl rfl (fun w hw => parse_any l w) ?_; rintro _ hp ⟨ap, cp, rfl, op⟩) | (refine J.fc 23 ?_; refine J.call1 eParseR rfl rfl (fun w hw => refParse_eq l w) ?_; rintro _ hq ⟨aq, cq, rfl, oq⟩) | (refine J.fc 14 ?_; refine J.call1 eGiven rfl rfl (fun w hw => given_any _ _ _ _ op.sl (by omega) w (hw.rdH (by first | exact RdH.hd | exact RdH.hd.tl | exact RdH.hd.tl.tl | exact RdH.hd.tl.tl.tl | exact RdH.hd.tl.tl.tl.tl | exact RdH.hd.tl.tl.tl.tl.tl | exact RdH.hd.tl.tl.tl.tl.tl.tl | exact RdH.hd.tl.tl.tl.tl.tl.tl.tl | exact RdH.old (fun _ hh => hh) | assumption))) ?_; rintro _ hg ⟨ag, cg, rfl, og⟩) | (refine J.fc 24 ?_; refine J.call0 eSame rfl rfl (fun w hw => hsame ▸ same_any _ _ _ _ _ _ _ _ og.sl oq.sl w (hw.rdH (by first | exact RdH.hd | exact RdH.hd.tl | exact RdH.hd.tl.tl | exact RdH.hd.tl.tl.tl | exact RdH.hd.tl.tl.tl.tl | exact RdH.hd.tl.tl.tl.tl.tl | exact RdH.hd.tl.tl.tl.tl.tl.tl | exact RdH.hd.tl.tl.tl.tl.tl.tl.tl | exact RdH.old (fun _ hh => hh) | assumption)) (hw.rdH (by first | exact RdH.hd | exact RdH.hd.tl | exact RdH.hd.tl.tl | exact RdH.hd.tl.tl.tl | exact RdH.hd.tl.tl.tl.tl | exact RdH.hd.tl.tl.tl.tl.tl | exact RdH.hd.tl.tl.tl.tl.tl.tl | exact RdH.hd.tl.tl.tl.tl.tl.tl.tl | exact RdH.old (fun _ hh => hh) | assumption)) (by omega) (by omega)) ?_)) | ((fail_if_success refine J.wt ?_); refine J.gc rfl rfl (fun hc => ?_) (fun hc => ?_) <;> ((try simp only [decide_eq_true_eq, decide_eq_false_iff_not, beq_iff_eq, beq_eq_false_iff_ne, bne_iff_ne, bne_eq_false_iff_eq, Bool.not_eq_true', Bool.not_eq_false', Bool.not_eq_true, Bool.not_eq_false] at hc) <;> first | (first | (exact absurd rfl hc) | (exfalso; omega) | (exact absurd (hc.symm.trans (by assumption : _ = false)) (by decide)) | (exact absurd (hc.symm.trans (by assumption : _ = true)) (by decide))) | skip)))
    | (first | refine JC.seq ?_ | refine JC.region ?_ | refine JC.block ?_ | refine JC.ret ?_ | refine JC.exit ?_ | refine JC.skip ?_ | refine thenK.nn ?_ | refine thenK.r ?_ | refine thenK.x ?_ | refine blockK.nn ?_ | refine blockK.r ?_ | refine blockK.hit rfl ?_ | refine blockK.miss rfl ?_ | refine JC.condT rfl ?_ | refine JC.condF rfl ?_ | (refine JC.cond rfl (fun hc => ?_) (fun hc => ?_) <;> ((try simp only [decide_eq_true_eq, decide_eq_false_iff_not, beq_iff_eq, beq_eq_false_iff_ne, bne_iff_ne, bne_eq_false_iff_eq, Bool.not_eq_true', Bool.not_eq_false', Bool.not_eq_true, Bool.not_eq_false] at hc) <;> first | (first | (exact absurd rfl hc) | (exfalso; omega) | (exact absurd (hc.symm.trans (by assumption : _ = false)) (by decide)) | (exact absurd (hc.symm.trans (by assumption : _ = true)) (by decide))) | skip)) | (refine JC.drawA [] (by kernel_rfl) (by kernel_rfl) ?_) | refine drawK.nn ?_ | refine roundK.nn ?_ | refine roundK.r ?_ | refine roundK.x ?_ | refine loopK.r ?_ | refine loopK.x ?_)
    | fail
  all_goals first | (exfalso; omega) | exact ret1f rfl rfl rfl (fun w1 hw => ⟨rfl, hw.below⟩) | exact ret1f rfl rfl rfl (fun w1 hw => ⟨retB (by simp), hw.below⟩)
end Go.Proofs.YtfegpmoephdkpaaDoor
