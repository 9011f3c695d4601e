/- tree.fold with the closures of tree.Forest. -/
import Derived.Test.YtdiciemlbhkilaaDoorZe
namespace Go.Proofs.YtdiciemlbhkilaaDoor
open Go Go.Cx Go.RowKit
set_option linter.unusedVariables false
set_option linter.unusedSimpArgs false
set_option maxHeartbeats 4000000
attribute [local irreducible] J JC thenK blockK loopK roundK drawK retK QW Qt pel List.set Calls

theorem class_fuel {ts : List Nd} (hl : Later ts) (s : Nat × Nat) : ∀ (f f' : Nat) (i : Int), 0 ≤ i → i < ts.length → ts.length - i ≤ f → ts.length - i ≤ f' → classN ts s f i = classN ts s f' i
  | 0, _, i, h0, h1, h2, _ => by omega
  | _ + 1, 0, i, h0, h1, _, h3 => by omega
  | f + 1, f' + 1, i, h0, h1, h2, h3 => by
    rw [classN, classN]
    by_cases hv : (ts.getD i.toNat default).v = 0
    · rw [if_pos hv, if_pos hv]
    · rw [if_neg hv, if_neg hv]
      obtain ⟨a, b, c, d⟩ := hl i h0 h1 hv
      rw [class_fuel hl s f f' _ (by omega) d (by omega) (by omega), class_fuel hl s f f' _ (by omega) b (by omega) (by omega)]
/-- the answer of a tree from a node on -/
def clsAt (ts : List Nd) (s : Nat × Nat) (j : Nat) : Bool := classN ts s ts.length j
theorem clsAt_leaf (ts : List Nd) (s : Nat × Nat) (j : Nat) (hj : j < ts.length) (hv : (ts.getD j default).v = 0) : clsAt ts s j = (ts.getD j default).c := by
  unfold clsAt
  obtain ⟨f, hf⟩ : ∃ f, ts.length = f + 1 := ⟨ts.length - 1, by omega⟩
  rw [hf, classN, Int.toNat_natCast, if_pos hv]
theorem clsAt_q {ts : List Nd} (hl : Later ts) (s : Nat × Nat) (j : Nat) (hj : j < ts.length) (hv : (ts.getD j default).v ≠ 0) : clsAt ts s j = if hasB s (ts.getD j default).v then clsAt ts s (ts.getD j default).yes.toNat else clsAt ts s (ts.getD j default).no.toNat := by
  have hlj := hl j (by omega) (by omega)
  rw [Int.toNat_natCast] at hlj
  obtain ⟨a, b, c, d⟩ := hlj hv
  unfold clsAt
  obtain ⟨f, hf⟩ : ∃ f, ts.length = f + 1 := ⟨ts.length - 1, by omega⟩
  conv => lhs; rw [hf]
  rw [classN, Int.toNat_natCast, if_neg hv, Int.toNat_of_nonneg (by omega), Int.toNat_of_nonneg (by omega)]
  rw [class_fuel hl s f ts.length _ (by omega) d (by omega) (by omega), class_fuel hl s f ts.length _ (by omega) b (by omega) (by omega)]
attribute [local irreducible] clsAt
/-- the first two gates say false and true -/
def Base (gs : List Gt) : Prop := 2 ≤ gs.length ∧ ∀ s, val s gs 0 = false ∧ val s gs 1 = true
theorem Base.grow {gs gs' : List Gt} (b : Base gs) (hl : gs.length ≤ gs'.length) (ho : ∀ (s : Nat × Nat) (t : Int), 0 ≤ t → t < gs.length → val s gs' t = val s gs t) : Base gs' := by
  obtain ⟨b1, b2⟩ := b
  exact ⟨by omega, fun s => by rw [ho s 0 (by omega) (by omega), ho s 1 (by omega) (by omega)]; exact b2 s⟩
theorem back5 (a b c d e : Heap) (L : List Heap) : (a :: b :: c :: d :: e :: L).Perm (c :: d :: e :: a :: b :: L) := (bring_perm 4 _).trans ((bring_perm 4 _).trans (bring_perm 4 _))
theorem eFold : Entr Tryd.prog 24 := Entr.of Tryd.func24 rfl rfl
theorem fold_any {w0 w : World} {R hl hI : Heap} {L : List Heap} {bc ba bh : Nat} {e ea eh : TypeId} {fa fh} {n : Int} {aL : Option Addr} {capL : Nat} {gs : List Gt} (a : Option Addr) (cap : Nat) (ts : List Nd) (hs : SlT encN 4 a ts R) (hpos : 0 < ts.length) (hf : ∀ i : Int, 0 ≤ i → i < ts.length → fmd (ts.getD i.toNat default) i n ts.length = true)
    (ol : OwT encG 3 59 aL capL gs hl) (st : St n gs hI) (hb : Base gs) (hlen : gs.length + 2 * ts.length ≤ 4096)
    (hr : Rd R L ba (.cells ⟨[.func (.func 22) ⟨[]⟩ ⟨[.pointer (some ⟨bc, 0, none⟩)]⟩]⟩ ea fa)) (hr2 : Rd R L bh (.cells ⟨[.func (.func 23) ⟨[]⟩ ⟨[.pointer (some ⟨ba, 0, none⟩)]⟩]⟩ eh fh)) (hw : H w0 R (cF bc e n aL gs.length capL :: hl :: hI :: L) w) :
    Calls Tryd.prog 24 #[.slice a ts.length cap, .func (.func 25) ⟨[]⟩ ⟨[]⟩, .func (.func 26) ⟨[]⟩ ⟨[.pointer (some ⟨bh, 0, none⟩), .pointer (some ⟨ba, 0, none⟩)]⟩] w fun e' w' => ∃ v' L', e' = .returned v' ∧ H w0 R L' w' ∧ (∃ (r : Int) (gs' : List Gt) (aL' : Option Addr) (capL' : Nat) (hl' hI' : Heap), v' = .int .i64 r ∧ OwT encG 3 59 aL' capL' gs' hl' ∧ St n gs' hI' ∧ L' = cF bc e n aL' gs'.length capL' :: hl' :: hI' :: L ∧ 0 ≤ r ∧ r < gs'.length ∧ gs.length ≤ gs'.length ∧ gs'.length ≤ gs.length + 2 * ts.length ∧ (∀ (s : Nat × Nat) (t : Int), 0 ≤ t → t < gs.length → val s gs' t = val s gs t) ∧ ∀ s, val s gs' r = clsAt ts s 0) := by
  have hlat := (all_of_fmd hf).1
  refine calls_in Tryd.func24 Tryd.ntmps24 rfl rfl (hw) ?_
  repeat' first
    | (refine J.isJ ?_; first | (first | (refine J.o 0 ?_; refine J.ev' hΓ ?_) | refine J.nil ?_ | refine J.kd ?_ | (refine J.o 4 ?_; first | refine J.e0 hΓ ?_ | refine J.lT default hΓ ?_ | refine J.e1 hΓ ?_ | refine J.e2 hΓ ?_ | refine J.lR hΓ ?_) | (refine J.o 3 ?_; first | refine J.iA hΓ ?_ | refine J.iJ hΓ ?_ | refine J.fP hΓ ?_ | refine J.iC hΓ ?_ | refine J.ev' hΓ ?_) | (refine J.o 1 ?_; first | refine J.ad ?_ | refine J.ct ?_ | refine J.sb ?_ | refine J.mu ?_ | refine J.ng ?_ | refine J.qu ?_ | refine J.rm ?_ | refine J.s1 ?_ | refine J.sr ?_ | refine J.aW ?_ | refine J.oW ?_ | refine J.nW ?_) | (refine J.o 2 ?_; refine J.cv _ hΓ ?_) | (refine J.o 5 ?_; first | refine J.t0 hΓ ?_ | refine J.t1 hΓ ?_ | refine J.t2 hΓ ?_ | refine J.tT _ default hΓ (fun _ _ => ?_) | refine J.tT1 _ default hΓ (fun _ _ => ?_) | refine J.tT2 _ default hΓ (fun _ _ => ?_) | refine J.tT3 _ default hΓ (fun _ _ => ?_)) | (refine J.o 6 ?_; refine J.bx (fun _ => ?_)) | (refine J.o 7 ?_; refine J.al hΓ (fun _ => ?_)) | (refine J.o 8 ?_; refine J.bd hΓ ?_) | (refine J.o 9 ?_; refine J.bl hΓ (fun _ => ?_)) | (refine J.o 10 ?_; first | refine J.ls hΓ ?_ | refine J.ev' hΓ ?_) | (refine J.o 11 ?_; first | refine J.eS ?_ | refine J.xS ?_ | refine J.ev' hΓ ?_ | refine J.nT hΓ ?_) | (refine J.o 12 ?_; refine J.ix hΓ ?_) | (refine J.o 13 ?_; first | refine J.sL hΓ ?_ | refine J.sH hΓ ?_) | (refine J.o 14 ?_; refine J.mf hΓ ?_) | refine J.kn ?_) | ((refine J.make (enc := encI) (0 : Int) hΓ rfl rfl rfl rfl rfl rfl (fun _ => rfl) (by omega) (by omega) (fun bp hp0 op0 => ?_))) | ((fail_if_success refine J.wt ?_); refine J.gc rfl rfl (fun hc => ?_) (fun hc => ?_) <;> ((try simp only [decide_eq_true_eq, decide_eq_false_iff_not, beq_iff_eq, beq_eq_false_iff_ne, bne_iff_ne, bne_eq_false_iff_eq, Bool.not_eq_true', Bool.not_eq_false', Bool.not_eq_true, Bool.not_eq_false] at hc) <;> first | (first | (exact absurd rfl hc) | (exfalso; omega) | (exact absurd (hc.symm.trans (by assumption : _ = false)) (by decide)) | (exact absurd (hc.symm.trans (by assumption : _ = true)) (by decide))) | skip)))
    | (first | refine JC.seq ?_ | refine JC.region ?_ | refine JC.block ?_ | refine JC.ret ?_ | refine JC.exit ?_ | refine JC.skip ?_ | refine thenK.nn ?_ | refine thenK.r ?_ | refine thenK.x ?_ | refine blockK.nn ?_ | refine blockK.r ?_ | refine blockK.hit rfl ?_ | refine blockK.miss rfl ?_ | refine JC.condT rfl ?_ | refine JC.condF rfl ?_ | (refine JC.cond rfl (fun hc => ?_) (fun hc => ?_) <;> ((try simp only [decide_eq_true_eq, decide_eq_false_iff_not, beq_iff_eq, beq_eq_false_iff_ne, bne_iff_ne, bne_eq_false_iff_eq, Bool.not_eq_true', Bool.not_eq_false', Bool.not_eq_true, Bool.not_eq_false] at hc) <;> first | (first | (exact absurd rfl hc) | (exfalso; omega) | (exact absurd (hc.symm.trans (by assumption : _ = false)) (by decide)) | (exact absurd (hc.symm.trans (by assumption : _ = true)) (by decide))) | skip)) | (refine JC.drawA [] (by kernel_rfl) (by kernel_rfl) ?_) | refine drawK.nn ?_ | refine roundK.nn ?_ | refine roundK.r ?_ | refine roundK.x ?_ | refine loopK.r ?_ | refine loopK.x ?_)
    | fail
  all_goals first | (exfalso; omega) | skip
  refine JC.loop (fun i => i == 8 || i == 9 || Nat.ble 16 i) (fun m g L' => ∃ (vs : List Int) (gs1 : List Gt) (aL1 : Option Addr) (capL1 : Nat) (hl1 hI1 hv : Heap), g 8 = .int .i64 ((m : Int) - 1) ∧ vs.length = ts.length ∧ OwT encI 1 3 (some ⟨bp, 0, none⟩) ts.length vs hv ∧ m ≤ ts.length ∧ OwT encG 3 59 aL1 capL1 gs1 hl1 ∧ St n gs1 hI1 ∧ Base gs1 ∧ gs.length ≤ gs1.length ∧ gs1.length + 2 * m ≤ gs.length + 2 * ts.length ∧
      (∀ (s : Nat × Nat) (t : Int), 0 ≤ t → t < gs.length → val s gs1 t = val s gs t) ∧ (∀ j, m ≤ j → j < ts.length → 0 ≤ vs.getD j default ∧ vs.getD j default < gs1.length ∧ ∀ s, val s gs1 (vs.getD j default) = clsAt ts s j) ∧ L' = hv :: cF bc e n aL1 gs1.length capL1 :: hl1 :: hI1 :: L) ts.length
    ⟨_, gs, aL, capL, hl, hI, _, rfl, by simp, op0, Nat.le_refl _, ol, st, hb, Nat.le_refl _, by omega, fun _ _ _ _ => rfl, fun j h1 h2 => by omega, rfl⟩ ?_
  rintro m g L' ⟨vs, gs1, aL1, capL1, hl1, hI1, hv, e8, hvl, ov, hm, ol1, st1, hb1, hg0, hg1, hold, hval, rfl⟩
  clear op0
  cases m with
  | zero =>
    refine JC.pin 8 e8 ?_
    clear e8
    obtain ⟨v0, v1, v2⟩ := hval 0 (by omega) hpos
    repeat' first
      | (refine J.isJ ?_; (first | (first | (refine J.o 0 ?_; refine J.ev' hΓ ?_) | refine J.nil ?_ | refine J.kd ?_ | (refine J.o 4 ?_; first | refine J.e0 hΓ ?_ | refine J.lT default hΓ ?_ | refine J.e1 hΓ ?_ | refine J.e2 hΓ ?_ | refine J.lR hΓ ?_) | (refine J.o 3 ?_; first | refine J.iA hΓ ?_ | refine J.iJ hΓ ?_ | refine J.fP hΓ ?_ | refine J.iC hΓ ?_ | refine J.ev' hΓ ?_) | (refine J.o 1 ?_; first | refine J.ad ?_ | refine J.ct ?_ | refine J.sb ?_ | refine J.mu ?_ | refine J.ng ?_ | refine J.qu ?_ | refine J.rm ?_ | refine J.s1 ?_ | refine J.sr ?_ | refine J.aW ?_ | refine J.oW ?_ | refine J.nW ?_) | (refine J.o 2 ?_; refine J.cv _ hΓ ?_) | (refine J.o 5 ?_; first | refine J.t0 hΓ ?_ | refine J.t1 hΓ ?_ | refine J.t2 hΓ ?_ | refine J.tT _ default hΓ (fun _ _ => ?_) | refine J.tT1 _ default hΓ (fun _ _ => ?_) | refine J.tT2 _ default hΓ (fun _ _ => ?_) | refine J.tT3 _ default hΓ (fun _ _ => ?_)) | (refine J.o 6 ?_; refine J.bx (fun _ => ?_)) | (refine J.o 7 ?_; refine J.al hΓ (fun _ => ?_)) | (refine J.o 8 ?_; refine J.bd hΓ ?_) | (refine J.o 9 ?_; refine J.bl hΓ (fun _ => ?_)) | (refine J.o 10 ?_; first | refine J.ls hΓ ?_ | refine J.ev' hΓ ?_) | (refine J.o 11 ?_; first | refine J.eS ?_ | refine J.xS ?_ | refine J.ev' hΓ ?_ | refine J.nT hΓ ?_) | (refine J.o 12 ?_; refine J.ix hΓ ?_) | (refine J.o 13 ?_; first | refine J.sL hΓ ?_ | refine J.sH hΓ ?_) | (refine J.o 14 ?_; refine J.mf hΓ ?_) | refine J.kn ?_) | ((fail_if_success refine J.wt ?_); refine J.gc rfl rfl (fun hc => ?_) (fun hc => ?_) <;> ((try simp only [decide_eq_true_eq, decide_eq_false_iff_not, beq_iff_eq, beq_eq_false_iff_ne, bne_iff_ne, bne_eq_false_iff_eq, Bool.not_eq_true', Bool.not_eq_false', Bool.not_eq_true, Bool.not_eq_false] at hc) <;> first | (first | (exact absurd rfl hc) | (exfalso; omega) | (exact absurd (hc.symm.trans (by assumption : _ = false)) (by decide)) | (exact absurd (hc.symm.trans (by assumption : _ = true)) (by decide))) | skip))))
      | (first | refine JC.seq ?_ | refine JC.region ?_ | refine JC.block ?_ | refine JC.ret ?_ | refine JC.exit ?_ | refine JC.skip ?_ | refine thenK.nn ?_ | refine thenK.r ?_ | refine thenK.x ?_ | refine blockK.nn ?_ | refine blockK.r ?_ | refine blockK.hit rfl ?_ | refine blockK.miss rfl ?_ | refine JC.condT rfl ?_ | refine JC.condF rfl ?_ | (refine JC.cond rfl (fun hc => ?_) (fun hc => ?_) <;> ((try simp only [decide_eq_true_eq, decide_eq_false_iff_not, beq_iff_eq, beq_eq_false_iff_ne, bne_iff_ne, bne_eq_false_iff_eq, Bool.not_eq_true', Bool.not_eq_false', Bool.not_eq_true, Bool.not_eq_false] at hc) <;> first | (first | (exact absurd rfl hc) | (exfalso; omega) | (exact absurd (hc.symm.trans (by assumption : _ = false)) (by decide)) | (exact absurd (hc.symm.trans (by assumption : _ = true)) (by decide))) | skip)) | (refine JC.drawA [] (by kernel_rfl) (by kernel_rfl) ?_) | refine drawK.nn ?_ | refine roundK.nn ?_ | refine roundK.r ?_ | refine roundK.x ?_ | refine loopK.r ?_ | refine loopK.x ?_)
      | fail
    all_goals first | (exfalso; omega) | skip
    all_goals exact ret1f rfl rfl rfl (fun w1 hw => ⟨_, _, rfl, hw.drop, _, gs1, aL1, capL1, hl1, hI1, rfl, ol1, st1, rfl, v0, v1, hg0, by omega, hold, v2⟩)
  | succ k =>
    have e8k : g 8 = .int .i64 (k : Int) := by rw [e8]; congr 1; omega
    refine JC.pin 8 e8k ?_
    clear e8 e8k
    have hk : k < ts.length := by omega
    have hfk := hf k (by omega) (by omega)
    rw [Int.toNat_natCast] at hfk
    by_cases hv0 : (ts.getD k default).v = 0
    · have cl := fun s => clsAt_leaf ts s k hk hv0
      repeat' first
        | (refine J.isJ ?_; first | (first | (refine J.o 0 ?_; refine J.ev' hΓ ?_) | refine J.nil ?_ | refine J.kd ?_ | (refine J.o 4 ?_; first | refine J.e0 hΓ ?_ | refine J.lT default hΓ ?_ | refine J.e1 hΓ ?_ | refine J.e2 hΓ ?_ | refine J.lR hΓ ?_) | (refine J.o 3 ?_; first | refine J.iA hΓ ?_ | refine J.iJ hΓ ?_ | refine J.fP hΓ ?_ | refine J.iC hΓ ?_ | refine J.ev' hΓ ?_) | (refine J.o 1 ?_; first | refine J.ad ?_ | refine J.ct ?_ | refine J.sb ?_ | refine J.mu ?_ | refine J.ng ?_ | refine J.qu ?_ | refine J.rm ?_ | refine J.s1 ?_ | refine J.sr ?_ | refine J.aW ?_ | refine J.oW ?_ | refine J.nW ?_) | (refine J.o 2 ?_; refine J.cv _ hΓ ?_) | (refine J.o 5 ?_; first | refine J.t0 hΓ ?_ | refine J.t1 hΓ ?_ | refine J.t2 hΓ ?_ | refine J.tT _ default hΓ (fun _ _ => ?_) | refine J.tT1 _ default hΓ (fun _ _ => ?_) | refine J.tT2 _ default hΓ (fun _ _ => ?_) | refine J.tT3 _ default hΓ (fun _ _ => ?_)) | (refine J.o 6 ?_; refine J.bx (fun _ => ?_)) | (refine J.o 7 ?_; refine J.al hΓ (fun _ => ?_)) | (refine J.o 8 ?_; refine J.bd hΓ ?_) | (refine J.o 9 ?_; refine J.bl hΓ (fun _ => ?_)) | (refine J.o 10 ?_; first | refine J.ls hΓ ?_ | refine J.ev' hΓ ?_) | (refine J.o 11 ?_; first | refine J.eS ?_ | refine J.xS ?_ | refine J.ev' hΓ ?_ | refine J.nT hΓ ?_) | (refine J.o 12 ?_; refine J.ix hΓ ?_) | (refine J.o 13 ?_; first | refine J.sL hΓ ?_ | refine J.sH hΓ ?_) | (refine J.o 14 ?_; refine J.mf hΓ ?_) | refine J.kn ?_) | ((refine J.callv0 eLeaf rfl rfl rfl (fun w hw => leaf_any _ w) ?_)) | ((fail_if_success refine J.wt ?_); refine J.gc rfl rfl (fun hc => ?_) (fun hc => ?_) <;> ((try simp only [decide_eq_true_eq, decide_eq_false_iff_not, beq_iff_eq, beq_eq_false_iff_ne, bne_iff_ne, bne_eq_false_iff_eq, Bool.not_eq_true', Bool.not_eq_false', Bool.not_eq_true, Bool.not_eq_false] at hc) <;> first | (first | (exact absurd rfl hc) | (exfalso; omega) | (exact absurd (hc.symm.trans (by assumption : _ = false)) (by decide)) | (exact absurd (hc.symm.trans (by assumption : _ = true)) (by decide))) | skip)))
        | (first | refine JC.seq ?_ | refine JC.region ?_ | refine JC.block ?_ | refine JC.ret ?_ | refine JC.exit ?_ | refine JC.skip ?_ | refine thenK.nn ?_ | refine thenK.r ?_ | refine thenK.x ?_ | refine blockK.nn ?_ | refine blockK.r ?_ | refine blockK.hit rfl ?_ | refine blockK.miss rfl ?_ | refine JC.condT rfl ?_ | refine JC.condF rfl ?_ | (refine JC.cond rfl (fun hc => ?_) (fun hc => ?_) <;> ((try simp only [decide_eq_true_eq, decide_eq_false_iff_not, beq_iff_eq, beq_eq_false_iff_ne, bne_iff_ne, bne_eq_false_iff_eq, Bool.not_eq_true', Bool.not_eq_false', Bool.not_eq_true, Bool.not_eq_false] at hc) <;> first | (first | (exact absurd rfl hc) | (exfalso; omega) | (exact absurd (hc.symm.trans (by assumption : _ = false)) (by decide)) | (exact absurd (hc.symm.trans (by assumption : _ = true)) (by decide))) | skip)) | (refine JC.drawA [] (by kernel_rfl) (by kernel_rfl) ?_) | refine drawK.nn ?_ | refine roundK.nn ?_ | refine roundK.r ?_ | refine roundK.x ?_ | refine loopK.r ?_ | refine loopK.x ?_)
        | fail
      all_goals first | (exfalso; omega) | skip
      all_goals refine loopK.np k [_] (_ :: cF bc e n aL1 gs1.length capL1 :: hl1 :: hI1 :: L) (by omega) (by repeat (first | refine Ag.upd rfl ?_ | exact Ag.hv)) (List.Perm.refl _) ⟨vs.set k (if (ts.getD k default).c then 1 else 0), gs1, aL1, capL1, hl1, hI1, _, rfl, by rw [List.length_set]; exact hvl, by assumption, by omega, ol1, st1, hb1, hg0, by omega, hold, ?_, rfl⟩
      intro j h1 h2
      rw [getD_set]
      obtain ⟨b1, b2⟩ := hb1
      by_cases hjk : k = j
      · subst hjk
        rw [if_pos ⟨rfl, by omega⟩]
        refine ⟨by split <;> omega, by split <;> omega, fun s => ?_⟩
        rw [cl s]
        cases (ts.getD k default).c
        · exact (b2 s).1
        · exact (b2 s).2
      · rw [if_neg (fun h => hjk h.1)]
        exact hval j (by omega) h2
    · have cq := fun s => clsAt_q hlat s k hk hv0
      have hlk := hlat k (by omega) (by omega)
      rw [Int.toNat_natCast] at hlk
      obtain ⟨l1, l2, l3, l4⟩ := hlk hv0
      obtain ⟨_, p1, p2, _, _, _, _⟩ := fmd_q hfk hv0
      obtain ⟨n0, n1, n2⟩ := hval (ts.getD k default).no.toNat (by omega) (by omega)
      obtain ⟨y0, y1, y2⟩ := hval (ts.getD k default).yes.toNat (by omega) (by omega)
      have cQ := fun (x : Heap) w hw => question_any (w0 := w0) (w := w) (R := R) (e := e) (L := x :: hv :: L) (ts.getD k default).v (vs.getD (ts.getD k default).no.toNat default) (vs.getD (ts.getD k default).yes.toNat default) ol1 st1 (by omega) (by omega) (by omega) (by omega) hr.tl.tl hr2.tl.tl hw
      repeat' first
        | (refine J.isJ ?_; first | (first | (refine J.o 0 ?_; refine J.ev' hΓ ?_) | refine J.nil ?_ | refine J.kd ?_ | (refine J.o 4 ?_; first | refine J.e0 hΓ ?_ | refine J.lT default hΓ ?_ | refine J.e1 hΓ ?_ | refine J.e2 hΓ ?_ | refine J.lR hΓ ?_) | (refine J.o 3 ?_; first | refine J.iA hΓ ?_ | refine J.iJ hΓ ?_ | refine J.fP hΓ ?_ | refine J.iC hΓ ?_ | refine J.ev' hΓ ?_) | (refine J.o 1 ?_; first | refine J.ad ?_ | refine J.ct ?_ | refine J.sb ?_ | refine J.mu ?_ | refine J.ng ?_ | refine J.qu ?_ | refine J.rm ?_ | refine J.s1 ?_ | refine J.sr ?_ | refine J.aW ?_ | refine J.oW ?_ | refine J.nW ?_) | (refine J.o 2 ?_; refine J.cv _ hΓ ?_) | (refine J.o 5 ?_; first | refine J.t0 hΓ ?_ | refine J.t1 hΓ ?_ | refine J.t2 hΓ ?_ | refine J.tT _ default hΓ (fun _ _ => ?_) | refine J.tT1 _ default hΓ (fun _ _ => ?_) | refine J.tT2 _ default hΓ (fun _ _ => ?_) | refine J.tT3 _ default hΓ (fun _ _ => ?_)) | (refine J.o 6 ?_; refine J.bx (fun _ => ?_)) | (refine J.o 7 ?_; refine J.al hΓ (fun _ => ?_)) | (refine J.o 8 ?_; refine J.bd hΓ ?_) | (refine J.o 9 ?_; refine J.bl hΓ (fun _ => ?_)) | (refine J.o 10 ?_; first | refine J.ls hΓ ?_ | refine J.ev' hΓ ?_) | (refine J.o 11 ?_; first | refine J.eS ?_ | refine J.xS ?_ | refine J.ev' hΓ ?_ | refine J.nT hΓ ?_) | (refine J.o 12 ?_; refine J.ix hΓ ?_) | (refine J.o 13 ?_; first | refine J.sL hΓ ?_ | refine J.sH hΓ ?_) | (refine J.o 14 ?_; refine J.mf hΓ ?_) | refine J.kn ?_) | (first | (refine J.callvx eQuestion rfl rfl rfl (fun w hw => cQ _ w (hw.perm (back5 _ _ _ _ _ _))) ?_; rintro _ _ ⟨r, gs2, aL2, capL2, hl2, hI2, rfl, o2, st2, rfl, r0, r1, g0, g1, hold2, hval2⟩; refine J.perm ((bring_perm 4 _).trans (bring_perm 4 _)) ?_)) | ((fail_if_success refine J.wt ?_); refine J.gc rfl rfl (fun hc => ?_) (fun hc => ?_) <;> ((try simp only [decide_eq_true_eq, decide_eq_false_iff_not, beq_iff_eq, beq_eq_false_iff_ne, bne_iff_ne, bne_eq_false_iff_eq, Bool.not_eq_true', Bool.not_eq_false', Bool.not_eq_true, Bool.not_eq_false] at hc) <;> first | (first | (exact absurd rfl hc) | (exfalso; omega) | (exact absurd (hc.symm.trans (by assumption : _ = false)) (by decide)) | (exact absurd (hc.symm.trans (by assumption : _ = true)) (by decide))) | skip)))
        | (first | refine JC.seq ?_ | refine JC.region ?_ | refine JC.block ?_ | refine JC.ret ?_ | refine JC.exit ?_ | refine JC.skip ?_ | refine thenK.nn ?_ | refine thenK.r ?_ | refine thenK.x ?_ | refine blockK.nn ?_ | refine blockK.r ?_ | refine blockK.hit rfl ?_ | refine blockK.miss rfl ?_ | refine JC.condT rfl ?_ | refine JC.condF rfl ?_ | (refine JC.cond rfl (fun hc => ?_) (fun hc => ?_) <;> ((try simp only [decide_eq_true_eq, decide_eq_false_iff_not, beq_iff_eq, beq_eq_false_iff_ne, bne_iff_ne, bne_eq_false_iff_eq, Bool.not_eq_true', Bool.not_eq_false', Bool.not_eq_true, Bool.not_eq_false] at hc) <;> first | (first | (exact absurd rfl hc) | (exfalso; omega) | (exact absurd (hc.symm.trans (by assumption : _ = false)) (by decide)) | (exact absurd (hc.symm.trans (by assumption : _ = true)) (by decide))) | skip)) | refine drawK.nn ?_ | refine roundK.nn ?_ | refine roundK.r ?_ | refine roundK.x ?_ | refine loopK.r ?_ | refine loopK.x ?_)
        | ((refine JC.drawW [] [15] (by kernel_rfl) (by kernel_rfl) ?_))
        | fail
      all_goals refine loopK.np k [_] (_ :: cF bc e n aL2 gs2.length capL2 :: hl2 :: hI2 :: L) (by omega) (by repeat (first | refine Ag.upd rfl ?_ | exact Ag.hv)) (List.Perm.refl _) ⟨vs.set k r, gs2, aL2, capL2, hl2, hI2, _, rfl, by rw [List.length_set]; exact hvl, by assumption, by omega, o2, st2, hb1.grow g0 hold2, by omega, by omega, fun s t h0 h1 => by rw [hold2 s t h0 (by omega)]; exact hold s t h0 h1, ?_, rfl⟩
      intro j h1 h2
      rw [getD_set]
      by_cases hjk : k = j
      · subst hjk
        rw [if_pos ⟨rfl, by omega⟩]
        refine ⟨r0, r1, fun s => ?_⟩
        rw [cq s, hval2, y2, n2]
      · rw [if_neg (fun h => hjk h.1)]
        obtain ⟨q0, q1, q2⟩ := hval j (by omega) h2
        exact ⟨q0, by omega, fun s => by rw [hold2 s _ q0 q1]; exact q2 s⟩
end Go.Proofs.YtdiciemlbhkilaaDoor
